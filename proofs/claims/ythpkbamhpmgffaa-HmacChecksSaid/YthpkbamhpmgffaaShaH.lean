/- Hand-written walks and plain lemmas of sha, hmac, keys: what each Go function comes to. No condition. -/
import Derived.Test.YthpkbamhpmgffaaShaG
namespace Go.Proofs.Ythpkbamhpmgffaa.Sha
open Go.RowKit Go.Proofs.YthpkbamhpmgffaaW.Hand Go.Proofs.YthpkbamhpmgffaaW.PrintWords Go.Proofs.YthpkbamhpmgffaaW.PrintLast Go.Proofs.YthpkbamhpmgffaaW.PrintMore Go.Proofs.Ythpkbamhpmgffaa.PF02 Go.Proofs.Ythpkbamhpmgffaa.Base Go.Proofs.Ythpkbamhpmgffaa.LF02
set_option linter.unusedVariables false
set_option linter.unusedSimpArgs false
theorem keepW {W w' : World} {g : Nat} {x0 x1 x2 x3 x4 x5 x6 x7 n : Int} {A : Option Addr} {m c : Nat} (hb : W.heap[g]? = some (.cells (hcells [x0, x1, x2, x3, x4, x5, x6, x7] (.slice A m c) n) 79 (0, 0))) (hB : w'.heap[g]? = W.heap[g]?) : w'.cell? ⟨g, 0, none⟩ = some (.int .u32 x0) ∧ w'.cell? ⟨g, 1, none⟩ = some (.int .u32 x1) ∧ w'.cell? ⟨g, 2, none⟩ = some (.int .u32 x2) ∧ w'.cell? ⟨g, 3, none⟩ = some (.int .u32 x3) ∧ w'.cell? ⟨g, 4, none⟩ = some (.int .u32 x4) ∧ w'.cell? ⟨g, 5, none⟩ = some (.int .u32 x5) ∧ w'.cell? ⟨g, 6, none⟩ = some (.int .u32 x6) ∧ w'.cell? ⟨g, 7, none⟩ = some (.int .u32 x7) ∧ w'.cell? ⟨g, 8, none⟩ = some (.slice A m c) ∧ w'.cell? ⟨g, 9, none⟩ = some (.int .i64 n) := by
  have h := hB.trans hb
  exact ⟨(blk_cell h 0).trans rfl, (blk_cell h 1).trans rfl, (blk_cell h 2).trans rfl, (blk_cell h 3).trans rfl, (blk_cell h 4).trans rfl, (blk_cell h 5).trans rfl, (blk_cell h 6).trans rfl, (blk_cell h 7).trans rfl, (blk_cell h 8).trans rfl, (blk_cell h 9).trans rfl⟩
theorem keepZ {w' : World} {g : Nat} (h : w'.heap[g]? = some (.cells (hcells (List.replicate 8 0) (.slice none 0 0) 0) 79 (0, 0))) : w'.cell? ⟨g, 0, none⟩ = some (.int .u32 0) ∧ w'.cell? ⟨g, 1, none⟩ = some (.int .u32 0) ∧ w'.cell? ⟨g, 2, none⟩ = some (.int .u32 0) ∧ w'.cell? ⟨g, 3, none⟩ = some (.int .u32 0) ∧ w'.cell? ⟨g, 4, none⟩ = some (.int .u32 0) ∧ w'.cell? ⟨g, 5, none⟩ = some (.int .u32 0) ∧ w'.cell? ⟨g, 6, none⟩ = some (.int .u32 0) ∧ w'.cell? ⟨g, 7, none⟩ = some (.int .u32 0) ∧ w'.cell? ⟨g, 8, none⟩ = some (.slice none 0 0) ∧ w'.cell? ⟨g, 9, none⟩ = some (.int .i64 0) ∧ w'.frozen? ⟨g, 0, none⟩ = false ∧ w'.frozen? ⟨g, 1, none⟩ = false ∧ w'.frozen? ⟨g, 2, none⟩ = false ∧ w'.frozen? ⟨g, 3, none⟩ = false ∧ w'.frozen? ⟨g, 4, none⟩ = false ∧ w'.frozen? ⟨g, 5, none⟩ = false ∧ w'.frozen? ⟨g, 6, none⟩ = false ∧ w'.frozen? ⟨g, 7, none⟩ = false ∧ w'.frozen? ⟨g, 8, none⟩ = false ∧ w'.frozen? ⟨g, 9, none⟩ = false :=
  ⟨(blk_cell h 0).trans rfl, (blk_cell h 1).trans rfl, (blk_cell h 2).trans rfl, (blk_cell h 3).trans rfl, (blk_cell h 4).trans rfl, (blk_cell h 5).trans rfl, (blk_cell h 6).trans rfl, (blk_cell h 7).trans rfl, (blk_cell h 8).trans rfl, (blk_cell h 9).trans rfl, blk_frozen h 0, blk_frozen h 1, blk_frozen h 2, blk_frozen h 3, blk_frozen h 4, blk_frozen h 5, blk_frozen h 6, blk_frozen h 7, blk_frozen h 8, blk_frozen h 9⟩
theorem C_hash {w : World} {g : Nat} {h : List Int} {v : Value} {n : Int} (hb : w.heap[g]? = some (.cells (hcells h v n) 79 (0, 0))) (hl : h.length ≤ 100) : Kd.C (Kd.int .u32) w (some ⟨g, 0, none⟩) h.length h := by
  refine ⟨rfl, by omega, fun hp => ⟨_, rfl, fun j p hj => ⟨[.int .u32 p], rfl, rfl, fun i u hu => ?_⟩⟩⟩
  have hi : i = 0 := by
    have := (List.getElem?_eq_some_iff.1 hu).1
    simp at this
    omega
  subst hi
  have e : Value.int .u32 p = u := by simpa using hu
  subst e
  rw [show (Kd.int .u32).sz = 1 from rfl, Nat.mul_one, Nat.add_zero, add_plain, blk_cell hb j]
  have hjl := (List.getElem?_eq_some_iff.1 hj).1
  unfold hcells
  rw [List.getElem?_toArray, List.getElem?_append_left (by simpa using hjl), List.getElem?_map, hj]
  rfl
theorem hset10 {w : World} {g : Nat} {x0 x1 x2 x3 x4 x5 x6 x7 y0 y1 y2 y3 y4 y5 y6 y7 n n' : Int} {v v' : Value} (hb : w.heap[g]? = some (.cells (hcells [x0, x1, x2, x3, x4, x5, x6, x7] v n) 79 (0, 0))) : ((((((((((w.setCell ⟨g, 0, none⟩ (.int .u32 y0)).setCell ⟨g, 1, none⟩ (.int .u32 y1)).setCell ⟨g, 2, none⟩ (.int .u32 y2)).setCell ⟨g, 3, none⟩ (.int .u32 y3)).setCell ⟨g, 4, none⟩ (.int .u32 y4)).setCell ⟨g, 5, none⟩ (.int .u32 y5)).setCell ⟨g, 6, none⟩ (.int .u32 y6)).setCell ⟨g, 7, none⟩ (.int .u32 y7)).setCell ⟨g, 8, none⟩ v').setCell ⟨g, 9, none⟩ (.int .i64 n')).heap[g]? = some (.cells (hcells [y0, y1, y2, y3, y4, y5, y6, y7] v' n') 79 (0, 0)) ∧ Upd w ((((((((((w.setCell ⟨g, 0, none⟩ (.int .u32 y0)).setCell ⟨g, 1, none⟩ (.int .u32 y1)).setCell ⟨g, 2, none⟩ (.int .u32 y2)).setCell ⟨g, 3, none⟩ (.int .u32 y3)).setCell ⟨g, 4, none⟩ (.int .u32 y4)).setCell ⟨g, 5, none⟩ (.int .u32 y5)).setCell ⟨g, 6, none⟩ (.int .u32 y6)).setCell ⟨g, 7, none⟩ (.int .u32 y7)).setCell ⟨g, 8, none⟩ v').setCell ⟨g, 9, none⟩ (.int .i64 n')) g := by
  refine ⟨?_, ((((((((((Upd.refl w g).setCell 0 (.int .u32 y0)).setCell 1 (.int .u32 y1)).setCell 2 (.int .u32 y2)).setCell 3 (.int .u32 y3)).setCell 4 (.int .u32 y4)).setCell 5 (.int .u32 y5)).setCell 6 (.int .u32 y6)).setCell 7 (.int .u32 y7)).setCell 8 v').setCell 9 (.int .i64 n')⟩
  have h9 := hset9 (y0 := y0) (y1 := y1) (y2 := y2) (y3 := y3) (y4 := y4) (y5 := y5) (y6 := y6) (y7 := y7) hb v'
  exact (blk_set h9 9 (.int .i64 n')).trans rfl
/-- A new Hash, however the region drew its order. -/
def NewH (x0 x1 x2 x3 x4 x5 x6 x7 : Int) (rest : List Int) (w1 wc : World) (v3 : Value) : Prop := ∃ (g3 : Nat) (A' : Option Addr) (c' : Nat), v3 = .pointer (some ⟨g3, 0, none⟩) ∧ Aside0 (wc.heap[g3]? = some (.cells (hcells [x0, x1, x2, x3, x4, x5, x6, x7] (.slice A' rest.length c') 0) 79 (0, 0)) ∧ w1.heap.size ≤ g3 ∧ QB wc w1.heap.size (.slice A' rest.length c') rest ∧ Below w1.heap.size w1 wc)
set_option maxHeartbeats 8000000 in
set_option maxRecDepth 100000 in
theorem HSum_calls (g : Nat) (h : List Int) (hh : h.length = 8) (A : Option Addr) (c : Nat) (n : Int) (rest : List Int) (base : Nat) (w : World) (hg : w.heap[g]? = some (.cells (hcells h (.slice A rest.length c) n) 79 (0, 0))) (hQ : QB w base (.slice A rest.length c) rest) (hBr : Bytes rest) (hl : rest.length ≤ 100000000000) (hn0 : 0 ≤ n) (hn1 : n ≤ 100000000000) (pl : List Int) (kp : Nat) (hpl : sha_Pad.f kp n = some pl) (hBp : Bytes pl) (hpll : pl.length ≤ 1000) :
    Calls Try.prog 25 #[.pointer (some ⟨g, 0, none⟩)] w fun e w' => e = .returned (.agg (arr .u8 (bytesL (eat h (rest ++ pl) ((rest ++ pl).length / 64))))) ∧ Below w.heap.size w w' := by
  obtain ⟨x0, x1, x2, x3, x4, x5, x6, x7, rfl⟩ := eight hh
  have hc0 : w.cell? ⟨g, 0, none⟩ = some (.int .u32 x0) := (blk_cell hg 0).trans rfl
  have hc1 : w.cell? ⟨g, 1, none⟩ = some (.int .u32 x1) := (blk_cell hg 1).trans rfl
  have hc2 : w.cell? ⟨g, 2, none⟩ = some (.int .u32 x2) := (blk_cell hg 2).trans rfl
  have hc3 : w.cell? ⟨g, 3, none⟩ = some (.int .u32 x3) := (blk_cell hg 3).trans rfl
  have hc4 : w.cell? ⟨g, 4, none⟩ = some (.int .u32 x4) := (blk_cell hg 4).trans rfl
  have hc5 : w.cell? ⟨g, 5, none⟩ = some (.int .u32 x5) := (blk_cell hg 5).trans rfl
  have hc6 : w.cell? ⟨g, 6, none⟩ = some (.int .u32 x6) := (blk_cell hg 6).trans rfl
  have hc7 : w.cell? ⟨g, 7, none⟩ = some (.int .u32 x7) := (blk_cell hg 7).trans rfl
  have hc8 : w.cell? ⟨g, 8, none⟩ = some (.slice A rest.length c) := (blk_cell hg 8).trans rfl
  have hc9 : w.cell? ⟨g, 9, none⟩ = some (.int .i64 n) := (blk_cell hg 9).trans rfl
  obtain ⟨s0, s1, s2, s3, s4, s5, s6, s7, hHs⟩ := eight (show (eat [x0, x1, x2, x3, x4, x5, x6, x7] (rest ++ pl) ((rest ++ pl).length / 64)).length = 8 by rw [eat_length]; rfl)
  rw [hHs]
  have HHS := Aside0.mk hHs
  clear hHs
  have HG := Aside0.mk hg
  have HQ := Aside0.mk hQ
  have HBR := Aside0.mk hBr
  have HPL := Aside0.mk hpl
  have HBP := Aside0.mk hBp
  clear hg hQ hBr hpl hBp hh
  go_enter Try.func25, Try.ntmps25
  go_upto_region 1 with (fail)
  generalize hw1 : w.alloc _ = w1
  have hb2 : w1.heap[w.heap.size]? = some (.cells (arr .u8 (List.replicate 32 0)) 38 (0, 0)) := by rw [← hw1]; exact heap_alloc_new w _
  have hl2 : Below w.heap.size w w1 := by rw [← hw1]; exact below_alloc (Below.refl _ _) _
  have hs2 : w1.heap.size = w.heap.size + 1 := by rw [← hw1]; simp
  have HB2 := Aside0.mk hb2
  have HL2 := Aside0.mk hl2
  have HS2 := Aside0.mk hs2
  clear hw1 hb2 hl2 hs2
  have hglt : g < w.heap.size := blk_lt HG.out
  have hcell1 : ∀ i, w1.cell? ⟨g, i, none⟩ = w.cell? ⟨g, i, none⟩ := fun i => by unfold World.cell?; rw [show w1.heap[(⟨g, i, none⟩ : Addr).block]? = w.heap[(⟨g, i, none⟩ : Addr).block]? from HL2.out.block g hglt]
  have hd0 := (hcell1 0).trans hc0
  have hd1 := (hcell1 1).trans hc1
  have hd2 := (hcell1 2).trans hc2
  have hd3 := (hcell1 3).trans hc3
  have hd4 := (hcell1 4).trans hc4
  have hd5 := (hcell1 5).trans hc5
  have hd6 := (hcell1 6).trans hc6
  have hd7 := (hcell1 7).trans hc7
  have hd8 := (hcell1 8).trans hc8
  have hd9 := (hcell1 9).trans hc9
  have hg1 : w1.heap[g]? = some (.cells (hcells [x0, x1, x2, x3, x4, x5, x6, x7] (.slice A rest.length c) n) 79 (0, 0)) := (HL2.out.block g hglt).trans HG.out
  have HG1 := Aside0.mk hg1
  have HQ1 := Aside0.mk (HQ.out.below HL2.out)
  clear hcell1 hc0 hc1 hc2 hc3 hc4 hc5 hc6 hc7 hc8 hc9 hg1
  have hglt1 : g < w1.heap.size := blk_lt HG1.out
  have q1 : Aside0 (∀ cs, QB (w1.alloc (.cells cs 5)).drew w1.heap.size (.slice (some ⟨w1.heap.size, 0, none⟩) 0 0) []) := ⟨fun cs => QB.empty w1 w1.heap.size (Nat.le_refl _) cs⟩
  have q2 : Aside0 (∀ cs H, QB ((w1.alloc (.cells cs 5)).alloc H).drew w1.heap.size (.slice (some ⟨w1.heap.size, 0, none⟩) 0 0) []) := ⟨fun cs H => (QB.empty w1 w1.heap.size (Nat.le_refl _) cs).below (below_drew (below_alloc (Below.refl _ _) H))⟩
  have q3 : Aside0 (∀ cs H, QB ((w1.alloc H).alloc (.cells cs 5)).drew w1.heap.size (.slice (some ⟨w1.heap.size + 1, 0, none⟩) 0 0) []) := ⟨fun cs H => by
    have := QB.empty (w1.alloc H) w1.heap.size (by simp) cs
    simp only [World.size_alloc] at this
    exact this⟩
  have hCr := QB.C HQ1.out
  have c1 : Aside0 (∀ B, Kd.C (Kd.int .u8) (w1.alloc B).drew A rest.length rest) := ⟨fun B => Kd.C_drew (Kd.C_alloc hCr B)⟩
  have c2 : Aside0 (∀ B H, Kd.C (Kd.int .u8) ((w1.alloc B).alloc H).drew A rest.length rest) := ⟨fun B H => Kd.C_drew (Kd.C_alloc (Kd.C_alloc hCr B) H)⟩
  have b1 : Aside0 (∀ B, (w1.alloc B).drew.heap[g]? = some (.cells (hcells [x0, x1, x2, x3, x4, x5, x6, x7] (.slice A rest.length c) n) 79 (0, 0))) := ⟨fun B => (Below.heap_alloc w1 B g hglt1).trans HG1.out⟩
  have b2 : Aside0 (∀ B H, ((w1.alloc B).alloc H).drew.heap[g]? = some (.cells (hcells [x0, x1, x2, x3, x4, x5, x6, x7] (.slice A rest.length c) n) 79 (0, 0))) := ⟨fun B H => (Below.heap_alloc (w1.alloc B) H g (by simp; omega)).trans (b1.out B)⟩
  clear hCr
  have hn0 : ¬ g = w1.heap.size := by omega
  have hn1 : ¬ g = w1.heap.size + 1 := by omega
  have hn2 : ¬ w1.heap.size = g := by omega
  have hn3 : ¬ w1.heap.size + 1 = g := by omega
  have b4 : Aside0 (∀ B, ((w1.alloc B).alloc (.cells (hcells (List.replicate 8 0) (.slice none 0 0) 0) 79)).drew.heap[w1.heap.size + 1]? = some (.cells (hcells (List.replicate 8 0) (.slice none 0 0) 0) 79 (0, 0))) := ⟨fun B => by
    have := heap_alloc_new (w1.alloc B) (.cells (hcells (List.replicate 8 0) (.slice none 0 0) 0) 79)
    rw [World.size_alloc] at this
    exact this⟩
  have b5 : Aside0 (∀ B, ((w1.alloc (.cells (hcells (List.replicate 8 0) (.slice none 0 0) 0) 79)).alloc B).drew.heap[w1.heap.size]? = some (.cells (hcells (List.replicate 8 0) (.slice none 0 0) 0) 79 (0, 0))) := ⟨fun B => (Below.heap_alloc (w1.alloc _) B w1.heap.size (by simp)).trans (heap_alloc_new w1 _)⟩
  go_cut [3] (fun v3 wc => ∃ (g3 : Nat) (A' : Option Addr) (c' : Nat), v3 = .pointer (some ⟨g3, 0, none⟩) ∧ Aside0 (wc.heap[g3]? = some (.cells (hcells [x0, x1, x2, x3, x4, x5, x6, x7] (.slice A' rest.length c') 0) 79 (0, 0)) ∧ w1.heap.size ≤ g3 ∧ QB wc w1.heap.size (.slice A' rest.length c') rest ∧ Below w1.heap.size w1 wc))
  case first =>
   go_region_held3 (fun w' => w'.cell? ⟨g, 0, none⟩ = some (.int .u32 x0) ∧ w'.cell? ⟨g, 1, none⟩ = some (.int .u32 x1) ∧ w'.cell? ⟨g, 2, none⟩ = some (.int .u32 x2) ∧ w'.cell? ⟨g, 3, none⟩ = some (.int .u32 x3) ∧ w'.cell? ⟨g, 4, none⟩ = some (.int .u32 x4) ∧ w'.cell? ⟨g, 5, none⟩ = some (.int .u32 x5) ∧ w'.cell? ⟨g, 6, none⟩ = some (.int .u32 x6) ∧ w'.cell? ⟨g, 7, none⟩ = some (.int .u32 x7) ∧ w'.cell? ⟨g, 8, none⟩ = some (.slice A rest.length c) ∧ w'.cell? ⟨g, 9, none⟩ = some (.int .i64 n)) (first | (with_reducible exact hS9) | go_keep) (first | ((refine step_QB (by rfl) (.tmp 9) (.tmp 13) 24 (by rfl) Try.underlying24 info5 w1.heap.size (.slice (some ⟨w1.heap.size, 0, none⟩) 0 0) [] rest A c (by rfl) (by rfl) (by with_reducible exact q1.out _) (by with_reducible exact c1.out _) (by simp; omega) (by simp) ?_; intro v' w' hq hgr hat; rw [List.nil_append] at hq; obtain ⟨A', c', hv', hle'⟩ := hq.slice; subst hv'; have hS9 := keepW (b1.out _) (hgr.block g (by simp; omega) (by simp [Value.ownBlock]; omega)); have hn4 : ¬ g = w'.heap.size := (by have := hgr.size; simp at this; omega); have hn5 : ¬ w'.heap.size = g := (by have := hgr.size; simp at this; omega); have HK := Aside0.mk (And.intro hq (And.intro hgr hat)); clear hq hgr hat)) | ((refine step_QB (by rfl) (.tmp 9) (.tmp 13) 24 (by rfl) Try.underlying24 info5 w1.heap.size (.slice (some ⟨w1.heap.size, 0, none⟩) 0 0) [] rest A c (by rfl) (by rfl) (by with_reducible exact q2.out _ _) (by with_reducible exact c2.out _ _) (by simp; omega) (by simp; omega) ?_; intro v' w' hq hgr hat; rw [List.nil_append] at hq; obtain ⟨A', c', hv', hle'⟩ := hq.slice; subst hv'; have hS9 := keepW (b2.out _ _) (hgr.block g (by simp; omega) (by simp [Value.ownBlock]; omega)); obtain ⟨z0, z1, z2, z3, z4, z5, z6, z7, z8, z9, f0, f1, f2, f3, f4, f5, f6, f7, f8, f9⟩ := keepZ ((hgr.block (w1.heap.size + 1) (by simp) (by simp [Value.ownBlock])).trans (b4.out _)); have HZ := Aside0.mk ((hgr.block (w1.heap.size + 1) (by simp) (by simp [Value.ownBlock])).trans (b4.out _)); have hn4 : ¬ g = w'.heap.size := (by have := hgr.size; simp at this; omega); have hn5 : ¬ w'.heap.size = g := (by have := hgr.size; simp at this; omega); have HK := Aside0.mk (And.intro hq (And.intro hgr hat)); clear hq hgr hat)) | ((refine step_QB (by rfl) (.tmp 9) (.tmp 13) 24 (by rfl) Try.underlying24 info5 w1.heap.size (.slice (some ⟨w1.heap.size + 1, 0, none⟩) 0 0) [] rest A c (by rfl) (by rfl) (by with_reducible exact q3.out _ _) (by with_reducible exact c2.out _ _) (by simp; omega) (by simp; omega) ?_; intro v' w' hq hgr hat; rw [List.nil_append] at hq; obtain ⟨A', c', hv', hle'⟩ := hq.slice; subst hv'; have hS9 := keepW (b2.out _ _) (hgr.block g (by simp; omega) (by simp [Value.ownBlock]; omega)); obtain ⟨z0, z1, z2, z3, z4, z5, z6, z7, z8, z9, f0, f1, f2, f3, f4, f5, f6, f7, f8, f9⟩ := keepZ ((hgr.block w1.heap.size (by simp; omega) (by simp [Value.ownBlock])).trans (b5.out _)); have HZ := Aside0.mk ((hgr.block w1.heap.size (by simp; omega) (by simp [Value.ownBlock])).trans (b5.out _)); have hn4 : ¬ g = w'.heap.size := (by have := hgr.size; simp at this; omega); have hn5 : ¬ w'.heap.size = g := (by have := hgr.size; simp at this; omega); have HK := Aside0.mk (And.intro hq (And.intro hgr hat)); clear hq hgr hat)))
   · go_wp2
     go_meet
     case rel =>
       obtain ⟨hq, hgr, hat⟩ := HK.out
       have hbW : Below w1.heap.size w1 w' := (below_drew (below_alloc (Below.refl _ _) _)).grown hgr (by simp) (fun k hk => by simp [Value.ownBlock] at hk; omega)
       exact ⟨w'.heap.size, A', c', rfl, ⟨heap_alloc_new w' _, hbW.size, hq.below (below_alloc (Below.refl _ _) _), hbW.alloc hbW.size _⟩⟩
   · go_wp2
     go_meet
     case rel =>
       obtain ⟨hq, hgr, hat⟩ := HK.out
       have hbW : Below w1.heap.size w1 w' := (below_drew (below_step (below_alloc (Below.refl _ _) _) (below_alloc (Below.refl _ _) _))).grown hgr (by simp; omega) (fun k hk => by simp [Value.ownBlock] at hk; omega)
       obtain ⟨e1, e2⟩ := hset10 (y0 := x0) (y1 := x1) (y2 := x2) (y3 := x3) (y4 := x4) (y5 := x5) (y6 := x6) (y7 := x7) (n' := 0) (v' := .slice A' rest.length c') (show w'.heap[w1.heap.size + 1]? = some (.cells (hcells [0, 0, 0, 0, 0, 0, 0, 0] (.slice none 0 0) 0) 79 (0, 0)) from HZ.out)
       exact ⟨w1.heap.size + 1, A', c', rfl, ⟨e1, by omega, hq.kept (e2.kept (S := fun k => k = w1.heap.size + 1) rfl) (fun k hk hS => hq.ne HZ.out (by decide) (hS ▸ hk)), e2.below hbW (by omega)⟩⟩
   · go_wp2
     go_meet
     case rel =>
       obtain ⟨hq, hgr, hat⟩ := HK.out
       have hbW : Below w1.heap.size w1 w' := (below_drew (below_step (below_alloc (Below.refl _ _) _) (below_alloc (Below.refl _ _) _))).grown hgr (by simp; omega) (fun k hk => by simp [Value.ownBlock] at hk; omega)
       obtain ⟨e1, e2⟩ := hset10 (y0 := x0) (y1 := x1) (y2 := x2) (y3 := x3) (y4 := x4) (y5 := x5) (y6 := x6) (y7 := x7) (n' := 0) (v' := .slice A' rest.length c') (show w'.heap[w1.heap.size]? = some (.cells (hcells [0, 0, 0, 0, 0, 0, 0, 0] (.slice none 0 0) 0) 79 (0, 0)) from HZ.out)
       exact ⟨w1.heap.size, A', c', rfl, ⟨e1, by omega, hq.kept (e2.kept (S := fun k => k = w1.heap.size) rfl) (fun k hk hS => hq.ne HZ.out (by decide) (hS ▸ hk)), e2.below hbW (by omega)⟩⟩
  case rest =>
   clear q1 q2 q3 c1 c2 b1 b2 b4 b5 hd0 hd1 hd2 hd3 hd4 hd5 hd6 hd7 hd8 hd9 hn0 hn1 hn2 hn3
   obtain ⟨g3, A', c', rfl, HN⟩ := hcut
   have hgc : wc.cell? ⟨g, 9, none⟩ = some (.int .i64 n) := by
     have := (HN.out.2.2.2.block g hglt1).trans HG1.out
     exact (blk_cell this 9).trans rfl
   have hg3w : w1.heap.size ≤ g3 := HN.out.2.1
   go_wp2_with (first | (go_at_call 19; refine (sha_Pad.calls kp n pl _ HPL.out).mono ?_; rintro e w4 ⟨v0, rfl, hr4, hb4⟩; obtain ⟨Ap, cp, rfl, hle, hC⟩ := Kd.R_reads hr4; have HCP := Aside0.mk hC; have HBP4 := Aside0.mk hb4; clear hr4 hC hb4) | (go_at_call 24; refine (Write_calls g3 [x0, x1, x2, x3, x4, x5, x6, x7] rfl (.slice A' rest.length c') 0 rest pl Ap cp w1.heap.size w4 ((HBP4.out.block g3 (blk_lt HN.out.1)).trans HN.out.1) hg3w (Nat.le_trans HN.out.2.2.2.size HBP4.out.size) (HN.out.2.2.1.below HBP4.out) HBR.out HCP.out hle HBP.out (by omega) (by omega) (by omega)).mono ?_; rintro e w5 ⟨v5, rfl, h5, hq5, hb5, hk5, ho5⟩; have H5 := Aside0.mk h5; have HB5 := Aside0.mk hb5; clear h5 hq5 hb5 hk5 ho5) | ((with_reducible refine gate_dst (N := 4) rfl ?_); refine L_alloc rfl 38 rfl (.agg (arr .u8 (List.replicate 32 0))) 32 (by kernel_rfl) ?_; intro g4 w6 hb4 hg4 hs4 hl4; have HB4 := Aside0.mk hb4; clear hb4; have HG4 := Aside0.mk hg4; clear hg4; have HS4 := Aside0.mk hs4; clear hs4; have HL4 := Aside0.mk hl4; clear hl4))
   have hg3w6 := (HL4.out.block g3 (blk_lt H5.out)).trans H5.out
   rw [HHS.out] at hg3w6
   obtain ⟨Hs, hHs⟩ : ∃ Hs, Hs = [s0, s1, s2, s3, s4, s5, s6, s7] := ⟨_, rfl⟩
   have hHl : Hs.length = 8 := by rw [hHs]; rfl
   rw [← hHs] at hg3w6
   obtain ⟨kb, hkb⟩ := (Bytes_ev Hs (by omega)).rounds
   have hC32 : Kd.C (Kd.int .u32) w6 (some ⟨g3, 0, none⟩) Hs.length Hs := C_hash hg3w6 (by omega)
   have hbl : (bytesL Hs).length = 32 := by rw [bytesL_len, hHl]
   have HBL := Aside0.mk hbl
   have hbe : Below w.heap.size w w6 := (((HL2.out.trans (HN.out.2.2.2.mono (by have := HS2.out; omega))).trans (HBP4.out.mono (by have := HN.out.2.2.2.size; have := HS2.out; omega))).trans (HB5.out.mono (by have := HS2.out; omega))).trans (HL4.out.mono (by have := HB5.out.size; have := HBP4.out.size; have := HN.out.2.2.2.size; have := HS2.out; omega))
   have hb26 : w6.heap[w.heap.size]? = some (.cells (arr .u8 (List.replicate 32 0)) 38 (0, 0)) := by
     have l1 := blk_lt HB2.out
     have s1 := HN.out.2.2.2.size
     have s2 := HBP4.out.size
     have s3 := HB5.out.size
     rw [HL4.out.block _ (by omega), HB5.out.block _ (by omega), HBP4.out.block _ (by omega), HN.out.2.2.2.block _ (by omega)]
     exact HB2.out
   have hlt24 : w.heap.size < g4 := by
     have l1 := blk_lt HB2.out
     have s1 := HN.out.2.2.2.size
     have s2 := HBP4.out.size
     have s3 := HB5.out.size
     have := HG4.out
     omega
   have H26 := Aside0.mk hb26
   have HBE := Aside0.mk hbe
   have HKB := Aside0.mk hkb
   have HC32 := Aside0.mk hC32
   subst hHs
   clear hHl hg3w6 hkb hC32 hbl hbe hb26 H5 HB5 HL4 HG4 HS4 HCP HBP4 HN hgc
   simp only [Act.put]
   go_region_law (first | ((refine step_copy_splice (by rfl) (.tmp 22) (.tmp 25) 24 24 (by rfl) 5 Try.underlying24 (by kernel_rfl) (some ⟨g4, 0, none⟩) Ab 32 32 (bytesL [s0, s1, s2, s3, s4, s5, s6, s7]).length cb (by rfl) (by rfl) g4 0 (List.replicate 32 (Value.int .u8 0)) 38 (by rw [HB7.out.block g4 (blk_lt HB4.out)]; exact HB4.out) ((bytesL [s0, s1, s2, s3, s4, s5, s6, s7]).map (Value.int .u8)) (by rw [List.length_map, HBL.out]; rfl) (fun hp => ⟨rfl, C_cells HC7.out (by rw [HBL.out]; omega)⟩) (by rw [List.length_map, HBL.out]; simp) (by intro v hv; obtain ⟨x, _, rfl⟩ := List.mem_map.1 hv; rfl) g4 w7 (Below.refl _ _) (Nat.le_refl _) ?_; intro w8 hb8 hB8; have HD8 := Aside0.mk hb8.out; have HB8 := Aside0.mk hB8; clear hb8 hB8)) | (go_simp; go_at_call 50; refine (word_Bytes.calls kb (some ⟨g3, 0, none⟩) 8 [s0, s1, s2, s3, s4, s5, s6, s7] _ _ (by first | with_reducible exact Kd.C_drew HC32.out | with_reducible exact HC32.out) (by simp) HKB.out).mono ?_; rintro e w7 ⟨v7, rfl, hr7, hb7⟩; obtain ⟨Ab, cb, rfl, hle7, hC7⟩ := Kd.R_reads hr7; have HC7 := Aside0.mk hC7; have HB7 := Aside0.mk hb7; clear hr7 hC7 hb7))
   have hd8 : w8.heap[g4]? = some (.cells (arr .u8 (bytesL [s0, s1, s2, s3, s4, s5, s6, s7])) 38 (0, 0)) := by
     rw [HD8.out]
     unfold splice arr
     rw [List.take_zero, List.nil_append, List.drop_of_length_le (by rw [List.length_map, HBL.out]; simp), List.append_nil]
   have hw7 : w7.heap[w.heap.size]? = w6.heap[w.heap.size]? := HB7.out.block w.heap.size (blk_lt H26.out)
   have hd2 : w8.heap[w.heap.size]? = some (.cells (arr .u8 (List.replicate 32 0)) 38 (0, 0)) := (HB8.out.block _ hlt24).trans (hw7.trans H26.out)
   have HX8 := Aside0.mk hd8
   have HX2 := Aside0.mk hd2
   clear hd8 hd2 hw7 HD8
   go_wp2_with (first | ((with_reducible refine gate_dst (N := 27) rfl ?_); refine L_load rfl 38 (.tmp 4) rfl g4 rfl 38 (arr .u8 (bytesL [s0, s1, s2, s3, s4, s5, s6, s7])) _ (HX8.out) Try.underlying38 rfl (by rw [arr_size, HBL.out]; kernel_rfl) ?_) | (refine L_store rfl rfl 38 (.tmp 2) (.tmp 27) (by rfl) w.heap.size (arr .u8 (bytesL [s0, s1, s2, s3, s4, s5, s6, s7])) (by rfl) (by rfl) (arr .u8 (List.replicate 32 0)) 38 (HX2.out) (by rw [arr_size, arr_size, HBL.out]; rfl) (by rw [arr_size, HBL.out]; kernel_rfl) (arr_one _ _) ?_; intro w9 hbw9 huw9; have HBW9 := Aside0.mk hbw9; clear hbw9; have HUW9 := Aside0.mk huw9; clear huw9))
   have hs7 := HB7.out.size
   have hbx : Below w.heap.size w w8 := (HBE.out.trans ((below_drew (Below.refl _ w6)).trans (HB7.out.mono (by show w.heap.size ≤ w6.heap.size; have := blk_lt H26.out; omega)))).trans (HB8.out.mono (by omega))
   exact ret_cell rfl rfl w.heap.size rfl (arr .u8 (bytesL [s0, s1, s2, s3, s4, s5, s6, s7])) 38 _ HBW9.out Try.underlying38 rfl (by rw [arr_size, HBL.out]; kernel_rfl) ⟨rfl, HUW9.out.below hbx (Nat.le_refl _)⟩
end Go.Proofs.Ythpkbamhpmgffaa.Sha
