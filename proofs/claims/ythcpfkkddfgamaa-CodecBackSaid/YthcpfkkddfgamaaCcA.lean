/- The methods of a Reader by their contracts, over one state. No condition beside those that the statements give. -/
import Derived.Test.YthcpfkkddfgamaaLF06C
namespace Go.Proofs.Ythcpfkkddfgamaa.Cod
open Go.RowKit Go.Proofs.YthcpfkkddfgamaaW.Hand Go.Proofs.YthcpfkkddfgamaaW.PrintWords Go.Proofs.YthcpfkkddfgamaaW.PrintLast Go.Proofs.YthcpfkkddfgamaaW.PrintMore Go.Proofs.Ythcpfkkddfgamaa.PF06C Go.Proofs.Ythcpfkkddfgamaa.Base Go.Proofs.Ythcpfkkddfgamaa.LF06C
attribute [local go_sem] max2_int min2_int max_two min_two max_three min_three max_four min_four
set_option linter.unusedVariables false
set_option linter.unusedSimpArgs false

theorem below_of_drawn {w w' : World} (h : Drawn0 w w') : Below w.heap.size w w' := by
  obtain ⟨n, rfl⟩ := h
  exact pw_below_drewN (Below.refl _ _) n
/-- A reader: what is left, the first error. -/
structure RSt (w : World) (g : Nat) (rest : List Int) (e : Int) (wr : World) : Prop where
  st : ∃ A c, wr.heap[g]? = some (.cells #[.slice A rest.length c, .int .i64 e] 119 (0, 0)) ∧ Kd.V (Kd.int .u8) 5 wr w.heap.size (fun k => k ≠ g) (.slice A rest.length c) rest
  below : Below w.heap.size w wr
  new : w.heap.size ≤ g
section
variable {w wr w' : World} {g : Nat} {rest : List Int} {e : Int}
theorem RSt.later (s : RSt w g rest e wr) (hb : Below wr.heap.size wr w') : RSt w g rest e w' := by
  obtain ⟨A, c, h1, h2⟩ := s.st
  exact ⟨⟨A, c, blk_below h1 hb, Kd.V_below h2 hb⟩, below_step s.below hb, s.new⟩
theorem RSt.then_ (s : RSt w g rest e wr) {v : Value} {r : List Int} {e' : Int} {ok : Nat → Prop} (hV : Kd.V (Kd.int .u8) 5 w' w.heap.size ok v r) (hok : ∀ k, ok k → k ≠ g ∨ wr.heap.size ≤ k) (hb : w'.heap[g]? = some (.cells #[v, .int .i64 e'] 119 (0, 0))) (hB : Below w.heap.size w w') : RSt w g r e' w' := by
  obtain ⟨A, c, h1, h2⟩ := s.st
  have hlt := blk_lt h1
  obtain ⟨A', c', rfl⟩ := Kd.V_slice hV
  exact ⟨⟨A', c', hb, Kd.V_mono hV (fun k hk => (hok k hk).elim id (fun h => by omega))⟩, hB, s.new⟩
theorem RSt.byte (s : RSt w g rest e wr) {x : Int} {rest' : List Int} {e' : Int} (h : codec_Reader_Byte.f rest e = some (x, rest', e')) : Calls Try.prog 53 #[.pointer (some ⟨g, 0, none⟩)] wr fun en w' => en = .returned (.int .u8 x) ∧ RSt w g rest' e' w' := by
  obtain ⟨A, c, h1, h2⟩ := s.st
  refine (codec_Reader_Byte.calls g (fun k => k ≠ g) A c rest e x rest' e' w wr h1 s.new s.below (Kd.V_mono h2 (fun k hk => ⟨hk, hk⟩)) h).mono ?_
  rintro en w' ⟨v1, ⟨rfl, hV, hb, hB, _⟩⟩
  exact ⟨rfl, s.then_ hV (fun k hk => hk) hb hB⟩
theorem RSt.number (s : RSt w g rest e wr) (k : Nat) {x : Int} {rest' : List Int} {e' : Int} (h : codec_Reader_Number.f k rest e = some (x, rest', e')) : Calls Try.prog 48 #[.pointer (some ⟨g, 0, none⟩)] wr fun en w' => en = .returned (.int .i64 x) ∧ RSt w g rest' e' w' := by
  obtain ⟨A, c, h1, h2⟩ := s.st
  refine (codec_Reader_Number.calls k g (fun k => k ≠ g) A c rest e x rest' e' w wr h1 s.new s.below (Kd.V_mono h2 (fun k hk => ⟨hk, hk⟩)) h).mono ?_
  rintro en w' ⟨v1, ⟨rfl, hV, hb, hB, _⟩⟩
  exact ⟨rfl, s.then_ hV (fun k hk => hk) hb hB⟩
theorem RSt.signed (s : RSt w g rest e wr) (k : Nat) {x : Int} {rest' : List Int} {e' : Int} (h : codec_Reader_Signed.f k rest e = some (x, rest', e')) : Calls Try.prog 54 #[.pointer (some ⟨g, 0, none⟩)] wr fun en w' => en = .returned (.int .i64 x) ∧ RSt w g rest' e' w' := by
  obtain ⟨A, c, h1, h2⟩ := s.st
  refine (codec_Reader_Signed.calls k g (fun k => k ≠ g) A c rest e x rest' e' w wr h1 s.new s.below (Kd.V_mono h2 (fun k hk => ⟨hk, hk⟩)) h).mono ?_
  rintro en w' ⟨v1, ⟨rfl, hV, hb, hB, _⟩⟩
  exact ⟨rfl, s.then_ hV (fun k hk => hk) hb hB⟩
theorem RSt.bool (s : RSt w g rest e wr) {x : Bool} {rest' : List Int} {e' : Int} (h : codec_Reader_Bool.f rest e = some (x, rest', e')) : Calls Try.prog 57 #[.pointer (some ⟨g, 0, none⟩)] wr fun en w' => en = .returned (.bool x) ∧ RSt w g rest' e' w' := by
  obtain ⟨A, c, h1, h2⟩ := s.st
  refine (codec_Reader_Bool.calls g (fun k => k ≠ g) A c rest e x rest' e' w wr h1 s.new s.below (Kd.V_mono h2 (fun k hk => ⟨hk, hk⟩)) h).mono ?_
  rintro en w' ⟨v1, ⟨rfl, hV, hb, hB, _⟩⟩
  exact ⟨rfl, s.then_ hV (fun k hk => hk) hb hB⟩
theorem RSt.done (s : RSt w g rest e wr) {x : Int} {rest' : List Int} {e' : Int} (h : codec_Reader_Done.f rest e = some (x, rest', e')) : Calls Try.prog 49 #[.pointer (some ⟨g, 0, none⟩)] wr fun en w' => en = .returned (.int .i64 x) ∧ RSt w g rest' e' w' := by
  obtain ⟨A, c, h1, h2⟩ := s.st
  refine (codec_Reader_Done.calls g (fun k => k ≠ g) A c rest e x rest' e' w wr h1 s.new s.below (Kd.V_mono h2 (fun k hk => ⟨hk, hk⟩)) h).mono ?_
  rintro en w' ⟨v1, ⟨rfl, hV, hb, hB, _⟩⟩
  exact ⟨rfl, s.then_ hV (fun k hk => hk) hb hB⟩
theorem RSt.err (s : RSt w g rest e wr) {x : Int} {rest' : List Int} {e' : Int} (h : codec_Reader_Err.f rest e = some (x, rest', e')) : Calls Try.prog 59 #[.pointer (some ⟨g, 0, none⟩)] wr fun en w' => en = .returned (.int .i64 x) ∧ RSt w g rest' e' w' := by
  obtain ⟨A, c, h1, h2⟩ := s.st
  refine (codec_Reader_Err.calls g (fun k => k ≠ g) A c rest e x rest' e' w wr h1 s.new s.below (Kd.V_mono h2 (fun k hk => ⟨hk, hk⟩)) h).mono ?_
  rintro en w' ⟨v1, ⟨rfl, hV, hb, hB, _⟩⟩
  exact ⟨rfl, s.then_ hV (fun k hk => hk) hb hB⟩
theorem RSt.left (s : RSt w g rest e wr) {x : Int} {rest' : List Int} {e' : Int} (h : codec_Reader_Left.f rest e = some (x, rest', e')) : Calls Try.prog 61 #[.pointer (some ⟨g, 0, none⟩)] wr fun en w' => en = .returned (.int .i64 x) ∧ RSt w g rest' e' w' := by
  obtain ⟨A, c, h1, h2⟩ := s.st
  refine (codec_Reader_Left.calls g (fun k => k ≠ g) A c rest e x rest' e' w wr h1 s.new s.below (Kd.V_mono h2 (fun k hk => ⟨hk, hk⟩)) h).mono ?_
  rintro en w' ⟨v1, ⟨rfl, hV, hb, hB, _⟩⟩
  exact ⟨rfl, s.then_ hV (fun k hk => hk) hb hB⟩
theorem RSt.fail (s : RSt w g rest e wr) (a1 : Int) {rest' : List Int} {e' : Int} (h : codec_Reader_Fail.f rest e a1 = some (rest', e')) : Calls Try.prog 60 #[.pointer (some ⟨g, 0, none⟩), .int .i64 a1] wr fun en w' => en = .returned (.tuple #[]) ∧ RSt w g rest' e' w' := by
  obtain ⟨A, c, h1, h2⟩ := s.st
  refine (codec_Reader_Fail.calls g (fun k => k ≠ g) A c rest e a1 rest' e' w wr h1 s.new s.below (Kd.V_mono h2 (fun k hk => ⟨hk, hk⟩)) h).mono ?_
  rintro en w' ⟨v1, ⟨rfl, hV, hb, hB, _⟩⟩
  exact ⟨rfl, s.then_ hV (fun k hk => hk) hb hB⟩
theorem RSt.text (s : RSt w g rest e wr) (k : Nat) (most : Int) {x : List Int} {rest' : List Int} {e' : Int} (h : codec_Reader_Text.f k rest e most = some (x, rest', e')) : Calls Try.prog 55 #[.pointer (some ⟨g, 0, none⟩), .int .i64 most] wr fun en w' => ∃ A c, en = .returned (.slice A x.length c) ∧ x.length ≤ c ∧ Kd.C (Kd.int .u8) w' A x.length x ∧ RSt w g rest' e' w' := by
  obtain ⟨A, c, h1, h2⟩ := s.st
  refine (codec_Reader_Text.calls k g (fun k => k ≠ g) A c rest e most x rest' e' w wr h1 s.new s.below (Kd.V_mono h2 (fun k hk => ⟨hk, hk⟩)) h).mono ?_
  rintro en w' ⟨v0, v1, ⟨rfl, hR, hV, hb, hB, _⟩⟩
  obtain ⟨A0, c0, rfl, hc, hC⟩ := Kd.R_reads hR
  exact ⟨A0, c0, rfl, hc, hC, s.then_ hV (fun k hk => hk.1) hb hB⟩
theorem RSt.take (s : RSt w g rest e wr) (n : Int) {x : List Int} {b : Bool} {rest' : List Int} {e' : Int} (h : codec_Reader_take.f rest e n = some (x, b, rest', e')) : Calls Try.prog 82 #[.pointer (some ⟨g, 0, none⟩), .int .i64 n] wr fun en w' => ∃ A c, en = .returned (.tuple #[.slice A x.length c, .bool b]) ∧ x.length ≤ c ∧ Kd.C (Kd.int .u8) w' A x.length x ∧ RSt w g rest' e' w' := by
  obtain ⟨A, c, h1, h2⟩ := s.st
  refine (codec_Reader_take.calls g (fun k => k ≠ g) A c rest e n x b rest' e' w wr h1 s.new s.below (Kd.V_mono h2 (fun k hk => ⟨hk, hk⟩)) h).mono ?_
  rintro en w' ⟨v0, v2, ⟨rfl, hV0, hV, hb, hB, _⟩⟩
  obtain ⟨A0, c0, rfl⟩ := Kd.V_slice hV0
  obtain ⟨_, hc, hC⟩ := Kd.V_reads' hV0
  exact ⟨A0, c0, rfl, hc, hC, s.then_ hV (fun k hk => hk) hb hB⟩
theorem RSt.start {wx : World} (hbx : Below w.heap.size w wx) {v : Value} {l : List Int} (hR : Kd.R (Kd.int .u8) 5 wr wx.heap.size (fun _ => True) v l) (hb : wr.heap[g]? = some (.cells #[v, .int .i64 0] 119 (0, 0))) (hg : wx.heap.size ≤ g) (hB : Below wx.heap.size wx wr) : RSt w g l 0 wr := by
  obtain ⟨A, c, rfl⟩ := Kd.R_slice hR
  exact ⟨⟨A, c, hb, Kd.R_V (Kd.R_types (Kd.R_mono hR (ok' := fun _ => True) (fun _ _ => trivial)) hb (by decide)) |> fun h => Kd.V_mono h (fun k hk => hk.2)⟩, below_step hbx hB, Nat.le_trans hbx.size hg⟩
end

end Go.Proofs.Ythcpfkkddfgamaa.Cod
