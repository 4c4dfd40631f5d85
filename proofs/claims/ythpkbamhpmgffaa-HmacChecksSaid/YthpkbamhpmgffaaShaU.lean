/- Hand-written walks and plain lemmas of sha, hmac, keys: what each Go function comes to. No condition. -/
import Derived.Test.YthpkbamhpmgffaaShaT
import Derived.Great.Walk
namespace Go.Proofs.Ythpkbamhpmgffaa.Sha
open Go.Great Go.RowKit Go.Proofs.YthpkbamhpmgffaaW.Hand Go.Proofs.YthpkbamhpmgffaaW.PrintWords Go.Proofs.YthpkbamhpmgffaaW.PrintLast Go.Proofs.YthpkbamhpmgffaaW.PrintMore Go.Proofs.Ythpkbamhpmgffaa.PF02 Go.Proofs.Ythpkbamhpmgffaa.Base Go.Proofs.Ythpkbamhpmgffaa.LF02
set_option linter.unusedVariables false
set_option linter.unusedSimpArgs false

/-! ### literals of slices -/
theorem L_bslice {P : Program} {ops : Array Oper} {rest : List Oper} {o : Oper} {a : Act} {W : World} {Q : Exit → Act → World → Prop} (hgd : o.guard = none) (t e : TypeId) (len : Nat) (parts : Array (Nat × Operand)) (ho : o.op = .buildSlice t len parts) (hu : P.underlying t = some (.slice e)) (cells : Array Value)
    (hf : Go.Program.builtSlice P e len (parts.map fun (i, x) => (i, a.eval x)).toList = some cells)
    (h : ∀ g w1, w1.heap[g]? = some (.cells cells e (0, 0)) → W.heap.size = g → w1.heap.size = g + 1 → Below W.heap.size W w1 → wpList P ops Q rest (a.put o.dst (.slice (some ⟨g, 0, none⟩) len len)) w1) : wpList P ops Q (o :: rest) a W :=
  wpList_buildSliceTo hgd t e len parts ho W.heap.size rfl o.dst rfl hu cells hf (h W.heap.size _ (heap_alloc_new W _) rfl (by show (W.heap.push _).size = _; simp) ((Below.refl _ _).alloc (Nat.le_refl _) _))
theorem C_rows {w : World} {g t : Nat} {vs : List Value} {ps : List (List Int)} (hb : w.heap[g]? = some (.cells vs.toArray t (0, 0))) (hl : vs.length = ps.length) (hn : ps.length ≤ 1000000) (h : ∀ (j : Nat) (v : Value) (l : List Int), vs[j]? = some v → ps[j]? = some l → ∃ A c, v = .slice A l.length c ∧ l.length ≤ c ∧ Kd.C (Kd.int .u8) w A l.length l) : Kd.C (Kd.slice 5 (Kd.int .u8)) w (some ⟨g, 0, none⟩) ps.length ps := by
  refine ⟨rfl, by omega, fun hp => ⟨_, rfl, fun j p hj => ?_⟩⟩
  have hjl : j < vs.length := by rw [hl]; exact (List.getElem?_eq_some_iff.1 hj).1
  obtain ⟨A, c, e, h1, h2⟩ := h j vs[j] p (List.getElem?_eq_getElem hjl) hj
  refine ⟨[.slice A p.length c], rfl, ⟨A, c, rfl, h1, h2⟩, fun i u hu => ?_⟩
  have hi : i = 0 := by
    have := (List.getElem?_eq_some_iff.1 hu).1
    simp at this
    omega
  subst hi
  have e' : Value.slice A p.length c = u := by simpa using hu
  subst e'
  rw [show (Kd.slice 5 (Kd.int .u8)).sz = 1 from rfl, Nat.mul_one, Nat.add_zero, add_plain, blk_cell hb j, List.getElem?_toArray, List.getElem?_eq_getElem hjl, e]
theorem C_rows1 {w : World} {g t : Nat} {A0 : Option Addr} {c0 : Nat} {p0 : List Int} (hb : w.heap[g]? = some (.cells #[.slice A0 p0.length c0] t (0, 0))) (h0 : p0.length ≤ c0) (hC0 : Kd.C (Kd.int .u8) w A0 p0.length p0) : Kd.C (Kd.slice 5 (Kd.int .u8)) w (some ⟨g, 0, none⟩) [p0].length [p0] :=
  C_rows (vs := [.slice A0 p0.length c0]) hb rfl (by simp) (fun j v l h1 h2 => by
    match j with
    | 0 => simp only [List.getElem?_cons_zero, Option.some.injEq] at h1 h2; subst h1 h2; exact ⟨_, _, rfl, h0, hC0⟩
    | n + 1 => simp at h1)
theorem C_rows2 {w : World} {g t : Nat} {A0 A1 : Option Addr} {c0 c1 : Nat} {p0 p1 : List Int} (hb : w.heap[g]? = some (.cells #[.slice A0 p0.length c0, .slice A1 p1.length c1] t (0, 0))) (h0 : p0.length ≤ c0) (hC0 : Kd.C (Kd.int .u8) w A0 p0.length p0) (h1 : p1.length ≤ c1) (hC1 : Kd.C (Kd.int .u8) w A1 p1.length p1) : Kd.C (Kd.slice 5 (Kd.int .u8)) w (some ⟨g, 0, none⟩) [p0, p1].length [p0, p1] :=
  C_rows (vs := [.slice A0 p0.length c0, .slice A1 p1.length c1]) hb rfl (by simp) (fun j v l h1 h2 => by
    match j with
    | 0 => simp only [List.getElem?_cons_zero, Option.some.injEq] at h1 h2; subst h1 h2; exact ⟨_, _, rfl, h0, hC0⟩
    | 1 => simp only [List.getElem?_cons_succ, List.getElem?_cons_zero, Option.some.injEq] at h1 h2; subst h1 h2; exact ⟨_, _, rfl, by assumption, hC1⟩
    | n + 2 => simp at h1)
theorem C_rows3 {w : World} {g t : Nat} {A0 A1 A2 : Option Addr} {c0 c1 c2 : Nat} {p0 p1 p2 : List Int} (hb : w.heap[g]? = some (.cells #[.slice A0 p0.length c0, .slice A1 p1.length c1, .slice A2 p2.length c2] t (0, 0))) (h0 : p0.length ≤ c0) (hC0 : Kd.C (Kd.int .u8) w A0 p0.length p0) (h1 : p1.length ≤ c1) (hC1 : Kd.C (Kd.int .u8) w A1 p1.length p1) (h2 : p2.length ≤ c2) (hC2 : Kd.C (Kd.int .u8) w A2 p2.length p2) : Kd.C (Kd.slice 5 (Kd.int .u8)) w (some ⟨g, 0, none⟩) [p0, p1, p2].length [p0, p1, p2] :=
  C_rows (vs := [.slice A0 p0.length c0, .slice A1 p1.length c1, .slice A2 p2.length c2]) hb rfl (by simp) (fun j v l h1' h2' => by
    match j with
    | 0 => simp only [List.getElem?_cons_zero, Option.some.injEq] at h1' h2'; subst h1' h2'; exact ⟨_, _, rfl, h0, hC0⟩
    | 1 => simp only [List.getElem?_cons_succ, List.getElem?_cons_zero, Option.some.injEq] at h1' h2'; subst h1' h2'; exact ⟨_, _, rfl, h1, hC1⟩
    | 2 => simp only [List.getElem?_cons_succ, List.getElem?_cons_zero, Option.some.injEq] at h1' h2'; subst h1' h2'; exact ⟨_, _, rfl, h2, hC2⟩
    | n + 3 => simp at h1')
theorem blk_cellm {w : World} {g t : Nat} {cs : Array Value} {m : Nat × Nat} (h : w.heap[g]? = some (.cells cs t m)) (i : Nat) : w.cell? ⟨g, i, none⟩ = cs[i]? := by
  simp [World.cell?, h]
theorem C_arrm {k : IntKind} {w : World} {g t : Nat} {m : Nat × Nat} {xs : List Int} (hb : w.heap[g]? = some (.cells (arr k xs) t m)) (hl : xs.length ≤ 1000000) : Kd.C (Kd.int k) w (some ⟨g, 0, none⟩) xs.length xs := by
  refine ⟨rfl, by omega, fun hp => ⟨_, rfl, fun j p hj => ⟨[.int k p], rfl, rfl, fun i u hu => ?_⟩⟩⟩
  have hi : i = 0 := by
    have := (List.getElem?_eq_some_iff.1 hu).1
    simp at this
    omega
  subst hi
  have e : Value.int k p = u := by simpa using hu
  subst e
  rw [show (Kd.int k).sz = 1 from rfl, Nat.mul_one, Nat.add_zero, add_plain, blk_cellm hb j]
  unfold arr
  rw [List.getElem?_toArray, List.getElem?_map, hj]
  rfl
theorem L_mark {P : Program} {ops : Array Oper} {rest : List Oper} {o : Oper} {a : Act} {W : World} {Q : Exit → Act → World → Prop} (hgd : o.guard = none) (t e : TypeId) (x : Operand) (ho : o.op = .convert t t x) (g n c : Nat) (C : Array Value) (hx : a.eval x = .slice (some ⟨g, 0, none⟩) n c) (ht : P.underlying t = some (.slice e)) (he : P.underlying e = some (.int .u8)) (hg : W.heap[g]? = some (.cells C e (0, 0)))
    (h : ∀ w1, w1.heap[g]? = some (.cells C e (C.size, C.size + 1)) → Upd W w1 g → wpList P ops Q rest (a.put o.dst (.slice (some ⟨g, 0, none⟩) n c)) w1) : wpList P ops Q (o :: rest) a W := by
  have hsh : W.shape? g = some (e, C.size) := by unfold World.shape?; rw [hg]
  have hrun : (convert t t (.slice (some ⟨g, 0, none⟩) n c)).run P W = .ok (.slice (some ⟨g, 0, none⟩) n c) (W.freeze ⟨g, C.size, none⟩ 1) := by
    simp [convert, run_underlying ht, run_underlying he, markStringish, hsh]
  refine Kd.event_run hgd (v := .slice (some ⟨g, 0, none⟩) n c) (w1 := W.freeze ⟨g, C.size, none⟩ 1) ?_ (h _ ?_ ?_)
  · simp [execOp, ho, hx, hrun]
  · unfold World.freeze
    rw [if_neg (by decide)]
    show (W.heap.modify g _)[g]? = _
    rw [Array.getElem?_modify, if_pos rfl, hg]
    rfl
  · unfold World.freeze
    rw [if_neg (by decide)]
    refine ⟨rfl, rfl, rfl, by simp, fun k hk => ?_⟩
    show (W.heap.modify g _)[k]? = _
    rw [Array.getElem?_modify, if_neg (fun e => hk e.symm)]
theorem C_nil (w : World) : Kd.C (Kd.int .u8) w none ([] : List Int).length [] := ⟨rfl, by simp, fun hp => by simp at hp⟩
/-- One byte more. -/
theorem QB.push {w W w' : World} {va v' : Value} {xs : List Int} {y : Int} {base : Nat} (hg : Below base w W) (h : QB W base va xs) (hb : base ≤ W.heap.size) (hq : QB w' base v' (xs ++ [y])) (hgr : W.grownBy w' va.ownBlock) : Below base w w' := hg.grown hgr hb (fun k hk => h.base k hk)
theorem hmac_hi : hmacL (List.replicate 20 11) [[72, 105, 32], [84, 104, 101, 114, 101]] = [176, 52, 76, 97, 216, 219, 56, 83, 92, 168, 175, 206, 175, 11, 241, 43, 136, 29, 194, 0, 201, 131, 61, 167, 38, 233, 55, 108, 46, 50, 207, 247] := by decide +kernel
theorem bytes_rep (n : Nat) : Bytes (List.replicate n 11) := fun x hx => by rw [List.mem_replicate] at hx; omega
theorem bytes_hi : ∀ x ∈ [[72, 105, 32], [84, 104, 101, 114, 101]], Bytes x := by
  intro x hx
  simp only [List.mem_cons, List.not_mem_nil, or_false] at hx
  rcases hx with rfl | rfl <;> intro y hy <;> simp at hy <;> omega
theorem rep_push (k : Nat) (x : Int) : List.replicate k x ++ [x] = List.replicate (k + 1) x := by rw [List.replicate_succ']
set_option maxHeartbeats 8000000 in
set_option maxRecDepth 100000 in
theorem awake03_calls (w : World) : Calls Try.prog 27 #[] w fun e w' => e = .returned (.bool true) ∧ Below w.heap.size w w' := by
  go_enter Try.func27, Try.ntmps27
  go_wp2
  go_loopw [1, 2] (fun va i wr => ∃ k : Nat, k ≤ 20 ∧ i = .int .i64 k ∧ Aside0 (QB wr w.heap.size va (List.replicate k 11) ∧ Below w.heap.size w wr)) (fun _ i _ => 20 - (intOf i).toNat)
  case atStart => exact ⟨0, by omega, rfl, ⟨QB.nil _ _, Below.refl _ _⟩⟩
  case round =>
    obtain ⟨k, hk, rfl, HR⟩ := hrel
    obtain ⟨hQ, hbe⟩ := HR.out
    obtain ⟨Aq, cq, rfl, hcq⟩ := hQ.slice
    have HQ := Aside0.mk hQ
    have HBE := Aside0.mk hbe
    clear hQ hbe HR
    by_cases hlt : k < 20
    · go_wp2_with (first | ((with_reducible refine gate_dst (N := 9) rfl ?_); refine L_bslice rfl 24 5 1 _ rfl Try.underlying24 (arr .u8 [11]) (by kernel_rfl) ?_; intro g9 w2 hb9 hg9 hs9 hl9; have HB9 := Aside0.mk hb9; clear hb9; have HG9 := Aside0.mk hg9; clear hg9; have HS9 := Aside0.mk hs9; clear hs9; have HL9 := Aside0.mk hl9; clear hl9) | ((with_reducible refine gate_builtin (b := .append) (xs := #[.tmp 8, .tmp 9]) rfl ?_); refine L_append rfl (.tmp 8) (.tmp 9) 24 rfl Try.underlying24 info5 w.heap.size (.slice Aq (List.replicate k (11 : Int)).length cq) (List.replicate k (11 : Int)) [11] (some ⟨g9, 0, none⟩) 1 rfl rfl (HQ.out.below HL9.out) (C_arr (xs := [11]) (HB9.out) (by simp)) (by simp; omega) (by have := HL9.out.size; have := HBE.out.size; omega) ?_; intro v3 w3 hq3 hgr3 hat3; have HQ3 := Aside0.mk hq3; have HGR3 := Aside0.mk hgr3; have HAT3 := Aside0.mk hat3; clear hq3 hgr3 hat3))
      go_roundw
      case rel =>
        refine ⟨k + 1, by omega, by go_num, ⟨?_, ?_⟩⟩
        · have := HQ3.out
          rwa [rep_push] at this
        · exact QB.push (below_step HBE.out HL9.out) (HQ.out.below HL9.out) (by have := HL9.out.size; have := HBE.out.size; omega) HQ3.out HGR3.out
      case measure => simp [intOf]; omega
    · obtain rfl : k = 20 := by omega
      have hbb : ∀ (w3 w31 w4 w41 : World) (g12 g14 : Nat), True := fun _ _ _ _ _ _ => trivial
      clear hbb
      go_wp2_with (first | ((with_reducible refine gate_dst (N := 12) rfl ?_); refine L_bslice rfl 24 5 3 _ rfl Try.underlying24 (arr .u8 [72, 105, 32]) (by kernel_rfl) ?_; intro g12 w3 hb12 hg12 hs12 hl12; have HB12 := Aside0.mk hb12; clear hb12; have HG12 := Aside0.mk hg12; clear hg12; have HS12 := Aside0.mk hs12; clear hs12; have HL12 := Aside0.mk hl12; clear hl12) | ((with_reducible refine gate_dst (N := 13) rfl ?_); refine L_mark rfl 24 5 (.tmp 12) rfl g12 _ _ (arr .u8 [72, 105, 32]) rfl Try.underlying24 Try.underlying5 (HB12.out) ?_; intro w31 hb31 hu31; have HM31 := Aside0.mk hb31; have HU31 := Aside0.mk hu31; clear hb31 hu31) | ((with_reducible refine gate_dst (N := 14) rfl ?_); refine L_bslice rfl 24 5 5 _ rfl Try.underlying24 (arr .u8 [84, 104, 101, 114, 101]) (by kernel_rfl) ?_; intro g14 w4 hb14 hg14 hs14 hl14; have HB14 := Aside0.mk hb14; clear hb14; have HG14 := Aside0.mk hg14; clear hg14; have HS14 := Aside0.mk hs14; clear hs14; have HL14 := Aside0.mk hl14; clear hl14) | ((with_reducible refine gate_dst (N := 15) rfl ?_); refine L_mark rfl 24 5 (.tmp 14) rfl g14 _ _ (arr .u8 [84, 104, 101, 114, 101]) rfl Try.underlying24 Try.underlying5 (HB14.out) ?_; intro w41 hb41 hu41; have HM41 := Aside0.mk hb41; have HU41 := Aside0.mk hu41; clear hb41 hu41; have HBB := Aside0.mk (HU41.out.below (below_step (HU31.out.below HL12.out (Nat.le_of_eq HG12.out)) HL14.out) (by have := HG14.out; have := HG12.out; have := blk_lt HM31.out; omega))) | ((with_reducible refine gate_dst (N := 16) rfl ?_); refine L_bslice rfl 42 24 2 _ rfl Try.underlying42 (#[.slice (some ⟨g12, 0, none⟩) 3 3, .slice (some ⟨g14, 0, none⟩) 5 5]) (by kernel_rfl) ?_; intro g16 w5 hb16 hg16 hs16 hl16; have HB16 := Aside0.mk hb16; clear hb16; have HG16 := Aside0.mk hg16; clear hg16; have HS16 := Aside0.mk hs16; clear hs16; have HL16 := Aside0.mk hl16; clear hl16) | (go_at_call 28; refine (HmacSum_calls Aq cq (List.replicate 20 11) (some ⟨g16, 0, none⟩) 2 [[72, 105, 32], [84, 104, 101, 114, 101]] w5 ((HQ.out.below HBB.out).below HL16.out).C hcq (bytes_rep 20) (by simp) (C_rows2 (p0 := [72, 105, 32]) (p1 := [84, 104, 101, 114, 101]) HB16.out (by simp) (Kd.C_below (C_arrm (xs := [72, 105, 32]) ((HU41.out.block g12 (by have := HG14.out; have := blk_lt HM31.out; omega)).trans ((HL14.out.block g12 (blk_lt HM31.out)).trans HM31.out)) (by simp)) HL16.out) (by simp) (Kd.C_below (C_arrm (xs := [84, 104, 101, 114, 101]) HM41.out (by simp)) HL16.out)) (by simp) bytes_hi (by simp) (by simp)).mono ?_; rintro e w6 ⟨rfl, hb6⟩; rw [hmac_hi]; have HB6 := Aside0.mk hb6; clear hb6) | ((with_reducible refine gate_dst (N := 3) rfl ?_); refine L_alloc rfl 38 rfl (.agg (arr .u8 (List.replicate 32 0))) 32 (by kernel_rfl) ?_; intro g3 w7 hb3 hg3 hs3 hl3; have HB3 := Aside0.mk hb3; clear hb3; have HG3 := Aside0.mk hg3; clear hg3; have HS3 := Aside0.mk hs3; clear hs3; have HL3 := Aside0.mk hl3; clear hl3) | (refine L_store rfl rfl 38 (.tmp 3) (.tmp 17) (by rfl) g3 (arr .u8 [176, 52, 76, 97, 216, 219, 56, 83, 92, 168, 175, 206, 175, 11, 241, 43, 136, 29, 194, 0, 201, 131, 61, 167, 38, 233, 55, 108, 46, 50, 207, 247]) (by rfl) (by rfl) (arr .u8 (List.replicate 32 0)) 38 (HB3.out) (by rfl) (by kernel_rfl) (arr_one _ _) ?_; intro w8 hbw8 huw8; have HBW8 := Aside0.mk hbw8; clear hbw8; have HUW8 := Aside0.mk huw8; clear huw8; have hc0 : w8.cell? ⟨g3, 0, none⟩ = some (.int .u8 176) := (blk_cell HBW8.out 0).trans rfl; have hc1 : w8.cell? ⟨g3, 1, none⟩ = some (.int .u8 52) := (blk_cell HBW8.out 1).trans rfl; have hc31 : w8.cell? ⟨g3, 31, none⟩ = some (.int .u8 247) := (blk_cell HBW8.out 31).trans rfl))
      go_ret
      exact ⟨rfl, HUW8.out.below (below_step (below_step (below_step (below_step HBE.out HBB.out) HL16.out) HB6.out) HL3.out) (by have := HG3.out; have := HBE.out.size; have := HBB.out.size; have := HL16.out.size; have := HB6.out.size; omega)⟩
end Go.Proofs.Ythpkbamhpmgffaa.Sha
