/- Hand-written walks and plain lemmas of sha, hmac, keys: what each Go function comes to. No condition. -/
import Derived.Test.YthpkbamhpmgffaaShaL
namespace Go.Proofs.Ythpkbamhpmgffaa.Sha
open Go.RowKit Go.Proofs.YthpkbamhpmgffaaW.Hand Go.Proofs.YthpkbamhpmgffaaW.PrintWords Go.Proofs.YthpkbamhpmgffaaW.PrintLast Go.Proofs.YthpkbamhpmgffaaW.PrintMore Go.Proofs.Ythpkbamhpmgffaa.PF02 Go.Proofs.Ythpkbamhpmgffaa.Base Go.Proofs.Ythpkbamhpmgffaa.LF02
set_option linter.unusedVariables false
set_option linter.unusedSimpArgs false

/-- A Hash that has been given this text; v: its bytes that wait. -/
def HashV (w : World) (base g : Nat) (all : List Int) (v : Value) : Prop :=
  w.heap[g]? = some (.cells (hcells (eat FS all (all.length / 64)) v (all.length : Int)) 79 (0, 0)) ∧ QB w base v (all.drop (64 * (all.length / 64)))
theorem HashV.of {w : World} {base g : Nat} {all : List Int} {v : Value} (h : HashV w base g all v) : HashOf w base g all := by
  obtain ⟨h1, h2⟩ := h
  obtain ⟨A, c, rfl, _⟩ := h2.slice
  exact ⟨A, c, h1, h2⟩
theorem WriteV_calls (g : Nat) (all b : List Int) (v : Value) (A : Option Addr) (c base : Nat) (w : World) (hH : HashV w base g all v) (hbg : base ≤ g) (hbase : base ≤ w.heap.size) (hBa : Bytes all) (hC : Kd.C (Kd.int .u8) w A b.length b) (hcc : b.length ≤ c) (hBb : Bytes b) (hl : all.length + b.length ≤ 1000000000) :
    Calls Try.prog 24 #[.pointer (some ⟨g, 0, none⟩), .slice A b.length c] w fun e w' => ∃ v', e = .returned (.tuple #[]) ∧ HashV w' base g (all ++ b) v' ∧ Below base w w' ∧ Kept w w' (fun k => k = g ∨ v.ownBlock = some k) ∧ (v'.ownBlock = v.ownBlock ∨ ∃ k, v'.ownBlock = some k ∧ w.heap.size ≤ k) := by
  obtain ⟨h1, h2⟩ := hH
  have hdl : (all.drop (64 * (all.length / 64))).length ≤ all.length := by rw [List.length_drop]; omega
  refine (Write_calls g _ (by rw [eat_length]; rfl) _ (all.length : Int) (all.drop (64 * (all.length / 64))) b A c base w h1 hbg hbase h2 (fun x hx => hBa x (List.mem_of_mem_drop hx)) hC hcc hBb (by omega) (by omega) (by omega)).mono ?_
  rintro e w' ⟨v', rfl, e1, e2, e3, e4, e5⟩
  rw [← eat_more] at e1
  rw [drop_more] at e2
  refine ⟨v', rfl, ⟨?_, e2⟩, e3, e4, e5⟩
  rw [e1]
  congr 3
  rw [List.length_append]
  omega
theorem HashV.kept {w w' : World} {S : Nat → Prop} {base g : Nat} {all : List Int} {v : Value} (h : HashV w base g all v) (hk : Kept w w' S) (hg : ¬ S g) (hv : ∀ k, v.ownBlock = some k → ¬ S k) : HashV w' base g all v := ⟨(hk.2 g (blk_lt h.1) hg).trans h.1, h.2.kept hk hv⟩
/-- Rows of bytes that came in, read one by one. -/
theorem rows_at {w : World} {A : Option Addr} {l : List (List Int)} (h : Kd.C (Kd.slice 5 (Kd.int .u8)) w A l.length l) (k : Nat) (hk : k < l.length) : ∃ ad A' c', A = some ad ∧ w.cell? (ad.add k) = some (.slice A' l[k].length c') ∧ l[k].length ≤ c' ∧ Kd.C (Kd.int .u8) w A' l[k].length l[k] := by
  obtain ⟨ad, e, hc⟩ := h.2.2 (by omega)
  obtain ⟨cs, h1, h2, h3⟩ := hc k l[k] (List.getElem?_eq_getElem hk)
  obtain ⟨A', c', rfl, hle, hC⟩ := h2
  refine ⟨ad, A', c', e, ?_, hle, hC⟩
  have := h3 0 _ rfl
  rwa [Nat.add_zero, show (Kd.slice 5 (Kd.int .u8)).sz = 1 from rfl, Nat.mul_one] at this
theorem piece_step {w wr w3 w4 : World} {g : Nat} {q r : List Int} {v v1 v4 va : Value} {xs : List Int} (hh4 : HashV w4 w.heap.size g r v4) (hb4 : Below w.heap.size w3 w4) (hk4 : Kept w3 w4 (fun k => k = g ∨ v.ownBlock = some k)) (ho4 : v4.ownBlock = v.ownBlock ∨ ∃ k, v4.ownBlock = some k ∧ w3.heap.size ≤ k) (hq3 : QB w3 w.heap.size v1 r)
    (hat3 : v1.ownBlock = va.ownBlock ∨ ∃ b, v1.ownBlock = some b ∧ wr.heap.size ≤ b) (hbe3 : Below w.heap.size w w3) (hH : HashV wr w.heap.size g q v) (hne : ∀ k, va.ownBlock = some k → v.ownBlock ≠ some k) (hg3 : wr.grownBy w3 va.ownBlock) (hQ : QB wr w.heap.size va xs) (hgl : w.heap.size ≤ g) :
    HashV w4 w.heap.size g r v4 ∧ QB w4 w.heap.size v1 r ∧ (∀ k, v1.ownBlock = some k → v4.ownBlock ≠ some k) ∧ Below w.heap.size w w4 := by
  have hg3' : w3.heap[g]? = wr.heap[g]? := hg3.block g (blk_lt hH.1) (fun e => hQ.ne hH.1 (by decide) e.symm)
  have hd : ∀ k, v1.ownBlock = some k → v.ownBlock ≠ some k := by
    intro k hk e
    rcases hat3 with h1 | ⟨b, h1, h2⟩
    · exact hne k (by rw [← h1, hk]) e
    · rw [hk] at h1
      injection h1 with h1
      have := hH.2.lt k e
      omega
  refine ⟨hh4, hq3.kept hk4 (fun k hk hS => ?_), fun k hk e => ?_, hbe3.trans hb4⟩
  · rcases hS with rfl | hS
    · exact hq3.ne (hg3'.trans hH.1) (by decide) hk
    · exact hd k hk hS
  · rcases ho4 with h1 | ⟨b, h1, h2⟩
    · exact hd k hk (by rw [← h1, e])
    · rw [e] at h1
      injection h1 with h1
      have := hq3.lt k hk
      omega
/-- The state of ShaPieces' loop. -/
def PSt (w wr : World) (g : Nat) (va : Value) (all : List Int) : Prop := ∃ v, HashV wr w.heap.size g all v ∧ QB wr w.heap.size va all ∧ (∀ k, va.ownBlock = some k → v.ownBlock ≠ some k) ∧ Below w.heap.size w wr ∧ w.heap.size ≤ g
set_option maxHeartbeats 8000000 in
set_option maxRecDepth 100000 in
theorem ShaPieces_calls (A : Option Addr) (c : Nat) (l : List (List Int)) (w : World) (hC : Kd.C (Kd.slice 5 (Kd.int .u8)) w A l.length l) (hcc : l.length ≤ c) (hB : ∀ x ∈ l, Bytes x) : Calls Try.prog 6 #[.slice A l.length c] w fun e w' => e = .returned (.bool true) ∧ Below w.heap.size w w' := by
  have HC := Aside0.mk hC
  have HBB := Aside0.mk hB
  clear hC hB
  by_cases hlen : l.length > 10
  · go_enter Try.func6, Try.ntmps6
    go_wp2_with (first | (go_at_call 13; refine (awake02_calls _).mono ?_; rintro e wa ⟨rfl, hba⟩; have HBA := Aside0.mk hba; clear hba))
    go_ret
    exact ⟨rfl, HBA.out⟩
  · go_enter Try.func6, Try.ntmps6
    go_wp2_with (first | (go_at_call 13; refine (awake02_calls _).mono ?_; rintro e wa ⟨rfl, hba⟩; have HBA := Aside0.mk hba; clear hba) | (go_at_call 23; refine (New_calls _).mono ?_; rintro e w2 ⟨g, rfl, hg, hgl, hb2⟩; have HG := Aside0.mk hg; have HGL := Aside0.mk hgl; have HB2 := Aside0.mk hb2; clear hg hgl hb2))
    have hI : Aside0 (PSt w w2 g (.slice none 0 0) []) := ⟨.slice none 0 0, ⟨HG.out, QB.nil _ _⟩, QB.nil _ _, (fun k hk => by cases hk), below_step HBA.out HB2.out, Nat.le_trans HBA.out.size HGL.out⟩
    clear HBA HG HGL HB2
    go_loopw [4, 5] (fun va i wr => ∃ k : Nat, k ≤ l.length ∧ i = .int .i64 k ∧ Aside0 ((l.take k).flatten.length ≤ 200 * k ∧ Bytes (l.take k).flatten ∧ PSt w wr g va (l.take k).flatten)) (fun _ i _ => l.length - (intOf i).toNat)
    case atStart => exact ⟨0, by omega, rfl, ⟨by simp, fun x hx => by simp at hx, hI.out⟩⟩
    case round =>
      clear hI
      obtain ⟨k, hk, rfl, HR⟩ := hrel
      by_cases hlt : k < l.length
      · obtain ⟨hfl, hfb, v, hH, hQ, hne, hbe, hgl⟩ := HR.out
        obtain ⟨ad, A', c', rfl, hcell0, hle, hCk⟩ := rows_at HC.out k hlt
        have hcell := pw_cell_below hbe hcell0
        have hBk : Bytes l[k] := HBB.out _ (List.getElem_mem hlt)
        obtain ⟨p, hp⟩ : ∃ p, p = l[k] := ⟨_, rfl⟩
        obtain ⟨q, hq⟩ : ∃ q, q = (l.take k).flatten := ⟨_, rfl⟩
        rw [← hp] at hcell hcell0 hle hCk hBk
        rw [← hq] at hfl hfb hH hQ
        obtain ⟨Aq, cq, rfl, hcq⟩ := hQ.slice
        by_cases hbig : p.length > 200
        · clear hH hQ hne hCk hBk hfb HR hp hq hcell0
          have HBE := Aside0.mk hbe
          clear hbe
          go_wp2
          go_ret
          exact ⟨rfl, HBE.out⟩
        · have HX := Aside0.mk (And.intro hp (And.intro hq (And.intro hfb (And.intro hBk (And.intro hH (And.intro hQ (And.intro hne (And.intro hbe hCk))))))))
          have HC0 := Aside0.mk hcell0
          obtain ⟨r, hr⟩ : ∃ r, r = q ++ p := ⟨_, rfl⟩
          have hrl : r.length = q.length + p.length := by rw [hr, List.length_append]
          have hrl2 : r.length ≤ 200 * (k + 1) := by omega
          have hBr : Bytes r := by rw [hr]; exact hfb.append hBk
          have HR2 := Aside0.mk (And.intro hr hBr)
          have heq : ∀ W : World, (Op.equalIn 10000 38 (.agg (arr .u8 (shaL r))) (.agg (arr .u8 (shaL r)))).run Try.prog W = .ok true W := fun W => by rw [run_equalIn_arr W 9998 38 5 32 .u8 Try.underlying38 Try.underlying5 (by kernel_rfl) (shaL r) (shaL r) (shaL_length r) (shaL_length r), decide_eq_true rfl]
          clear hp hq hfb hBk hH hQ hne hbe hCk HR hcell0 hr hBr hrl
          go_wp2_with (first | ((with_reducible refine gate_builtin (b := .append) (xs := #[.tmp 26, .tmp 30]) rfl ?_); refine L_append rfl (.tmp 26) (.tmp 30) 24 rfl Try.underlying24 info5 w.heap.size (.slice Aq q.length cq) q p A' c' rfl rfl HX.out.2.2.2.2.2.1 (Kd.C_below HX.out.2.2.2.2.2.2.2.2 HX.out.2.2.2.2.2.2.2.1) (by omega) HX.out.2.2.2.2.2.2.2.1.size ?_; intro v1 w3 hq3 hg3 hat3; rw [← HR2.out.1] at hq3; obtain ⟨A1, c1, hv1, hle1⟩ := hq3.slice; subst hv1; have hbe3 := HX.out.2.2.2.2.2.2.2.1.grown hg3 HX.out.2.2.2.2.2.2.2.1.size (fun k hk => HX.out.2.2.2.2.2.1.base k hk); have hd3 := pw_cell_below hbe3 HC0.out; have HQ3 := Aside0.mk hq3; have HG3 := Aside0.mk hg3; have HAT3 := Aside0.mk hat3; have HBE3 := Aside0.mk hbe3; clear hq3 hg3 hat3 hbe3) | (go_at_call 24; refine (WriteV_calls g q p v A' c' w.heap.size w3 (HX.out.2.2.2.2.1.kept (grown_kept HG3.out) (fun e => HX.out.2.2.2.2.2.1.ne HX.out.2.2.2.2.1.1 (by decide) e) (fun k hk e => HX.out.2.2.2.2.2.2.1 k e hk)) hgl HBE3.out.size HX.out.2.2.1 (Kd.C_below HX.out.2.2.2.2.2.2.2.2 HBE3.out) hle HX.out.2.2.2.1 (by omega)).mono ?_; rintro e w4 ⟨v4, rfl, hh4, hb4, hk4, ho4⟩; rw [← HR2.out.1] at hh4; have HS4 := Aside0.mk (piece_step hh4 hb4 hk4 ho4 HQ3.out HAT3.out HBE3.out HX.out.2.2.2.2.1 HX.out.2.2.2.2.2.2.1 HG3.out HX.out.2.2.2.2.2.1 hgl); have HBC := Aside0.mk (Below.refl w4.heap.size w4); clear hh4 hb4 hk4 ho4) | (go_at_call 25; refine (SumH_calls g r w.heap.size _ (HS4.out.1.of.below HBC.out) HR2.out.2 (by omega)).mono ?_; rintro e w5 ⟨rfl, hb5⟩; have HBC := Aside0.mk (below_step HBC.out hb5); clear hb5) | (go_at_call 21; refine (Sum_calls A1 c1 r _ (HS4.out.2.1.below HBC.out).C hle1 HR2.out.2 (by omega)).mono ?_; rintro e w5 ⟨rfl, hb5⟩; have HBC := Aside0.mk (below_step HBC.out hb5); clear hb5) | (go_at_call 26; refine (Len_calls g _ (by rw [eat_length]; rfl) v4 (r.length : Int) _ ((HBC.out.block g (blk_lt HS4.out.1.1)).trans HS4.out.1.1)).mono ?_; rintro e w5 ⟨rfl, rfl⟩))
          go_roundw
          case rel =>
            have e : (l.take (k + 1)).flatten = r := by
              rw [HR2.out.1, List.take_succ_eq_append_getElem hlt, List.flatten_append, ← HX.out.1, ← HX.out.2.1]
              simp
            refine ⟨k + 1, by omega, by go_num, ⟨?_, ?_, ?_⟩⟩
            · rw [e]; exact hrl2
            · rw [e]; exact HR2.out.2
            · rw [e]
              exact ⟨v4, ⟨(HBC.out.block g (blk_lt HS4.out.1.1)).trans HS4.out.1.1, HS4.out.1.2.below HBC.out⟩, HS4.out.2.1.below HBC.out, HS4.out.2.2.1, below_step HS4.out.2.2.2 HBC.out, hgl⟩
          case measure => simp [intOf]; omega
      · obtain rfl : k = l.length := by omega
        have HBE : Aside0 (Below w.heap.size w wr) := by
          obtain ⟨_, _, v, _, _, _, hbe, _⟩ := HR.out
          exact ⟨hbe⟩
        clear HR
        go_wp2
        go_ret
        exact ⟨rfl, HBE.out⟩
end Go.Proofs.Ythpkbamhpmgffaa.Sha
