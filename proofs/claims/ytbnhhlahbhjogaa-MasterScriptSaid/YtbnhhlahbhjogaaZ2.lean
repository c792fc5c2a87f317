/- The document's master: New. WRITTEN BY wip/gen_y34.py. The document's master: ready. WRITTEN BY wip/gen_y35.py. The document's master: hello. WRITTEN BY wip/gen_y36.py. (JOINED BY wip/merge.py.) -/
import Derived.Test.YtbnhhlahbhjogaaZ1
set_option linter.unusedVariables false
set_option linter.unusedSimpArgs false
set_option maxRecDepth 100000
namespace Go.Proofs.Ytbnhhlahbhjogaa.K
open Go.RowKit Go.Proofs.YtbnhhlahbhjogaaW.PrintWords Go.Proofs.YtbnhhlahbhjogaaW.PrintLast Go.Proofs.YtbnhhlahbhjogaaW.PrintMore Go.Proofs.Ytbnhhlahbhjogaa.U Go.Proofs.Ytbnhhlahbhjogaa.T

set_option maxHeartbeats 3200000 in
theorem rfNew_no (c : CfgD) (h : CfH) (rs : List RecD) (AR : Option Addr) (cR : Nat) (w : World) (hj : JobH w c.job h) (hm : ¬ CfgMay c) :
    Calls Try.prog 25 #[.agg #[.slice h.A1 c.job.splits.length h.c1, .int .i64 c.job.parts, .slice h.A2 c.job.map.length h.c2, .slice h.A3 c.job.combine.length h.c3, .slice h.A4 c.job.reduce.length h.c4, .int .i64 c.job.chunk, .int .i64 c.job.window, .int .i64 c.job.fuel, .slice h.A5 c.job.marks.length h.c5, .int .i64 c.workers, .int .i64 c.tries, .int .i64 c.timeout], .slice AR rs.length cR] w fun e w' => e = .returned (.tuple #[.pointer none, .int .i64 2]) ∧ Below w.heap.size w w' := by
  obtain ⟨N, hN⟩ : ∃ N, N = c.job.splits.length := ⟨_, rfl⟩
  obtain ⟨n2, hn2⟩ : ∃ N, N = c.job.map.length := ⟨_, rfl⟩
  obtain ⟨n3, hn3⟩ : ∃ N, N = c.job.combine.length := ⟨_, rfl⟩
  obtain ⟨n4, hn4⟩ : ∃ N, N = c.job.reduce.length := ⟨_, rfl⟩
  obtain ⟨n5, hn5⟩ : ∃ N, N = c.job.marks.length := ⟨_, rfl⟩
  obtain ⟨gC, hgC⟩ : ∃ g, g = w.heap.size := ⟨_, rfl⟩
  obtain ⟨w0, hw0⟩ : ∃ w0, w0 = w.alloc (.cells #[.slice h.A1 N h.c1, .int .i64 c.job.parts, .slice h.A2 n2 h.c2, .slice h.A3 n3 h.c3, .slice h.A4 n4 h.c4, .int .i64 c.job.chunk, .int .i64 c.job.window, .int .i64 c.job.fuel, .slice h.A5 n5 h.c5, .int .i64 c.workers, .int .i64 c.tries, .int .i64 c.timeout] 28) := ⟨_, rfl⟩
  have hb0 : Below w.heap.size w w0 := by rw [hw0]; exact (Below.refl _ _).alloc (Nat.le_refl _) _
  have hg0 : w0.heap[gC]? = some (.cells ([.slice h.A1 N h.c1, .int .i64 c.job.parts, .slice h.A2 n2 h.c2, .slice h.A3 n3 h.c3, .slice h.A4 n4 h.c4, .int .i64 c.job.chunk, .int .i64 c.job.window, .int .i64 c.job.fuel, .slice h.A5 n5 h.c5, .int .i64 c.workers, .int .i64 c.tries, .int .i64 c.timeout] : List Value).toArray 28 (0, 0)) := by rw [hw0, hgC]; exact alloc_at w _
  have huc := Try.underlying28
  have huj := Try.underlying26
  have hur := Try.underlying90
  have hum := Try.underlying75
  have HMC := Aside0.mk (refCfgMay c.job c.workers c.tries c.timeout h.A1 h.A2 h.A3 h.A4 h.A5 h.c1 h.c2 h.c3 h.c4 h.c5 w0 (JobC.below hj hb0) false (by simpa using hm))
  rw [← hN, ← hn2, ← hn3, ← hn4, ← hn5] at HMC
  have HJ := Aside0.mk hj
  have HMAY := Aside0.mk hm
  have HN := Aside0.mk (And.intro hN (And.intro hn2 (And.intro hn3 (And.intro hn4 hn5))))
  have HGC := Aside0.mk hgC
  have HW0 := Aside0.mk hw0
  have HB0 := Aside0.mk hb0
  have HG0 := Aside0.mk hg0
  have x0 : w0.cell? ⟨gC, 0, none⟩ = some (.slice h.A1 N h.c1) := cell_of_blk hg0
  have x1 : w0.cell? ⟨gC, 1, none⟩ = some (.int .i64 c.job.parts) := cell_of_blk hg0
  have x2 : w0.cell? ⟨gC, 2, none⟩ = some (.slice h.A2 n2 h.c2) := cell_of_blk hg0
  have x3 : w0.cell? ⟨gC, 3, none⟩ = some (.slice h.A3 n3 h.c3) := cell_of_blk hg0
  have x4 : w0.cell? ⟨gC, 4, none⟩ = some (.slice h.A4 n4 h.c4) := cell_of_blk hg0
  have x5 : w0.cell? ⟨gC, 5, none⟩ = some (.int .i64 c.job.chunk) := cell_of_blk hg0
  have x6 : w0.cell? ⟨gC, 6, none⟩ = some (.int .i64 c.job.window) := cell_of_blk hg0
  have x7 : w0.cell? ⟨gC, 7, none⟩ = some (.int .i64 c.job.fuel) := cell_of_blk hg0
  have x8 : w0.cell? ⟨gC, 8, none⟩ = some (.slice h.A5 n5 h.c5) := cell_of_blk hg0
  have x9 : w0.cell? ⟨gC, 9, none⟩ = some (.int .i64 c.workers) := cell_of_blk hg0
  have x10 : w0.cell? ⟨gC, 10, none⟩ = some (.int .i64 c.tries) := cell_of_blk hg0
  have x11 : w0.cell? ⟨gC, 11, none⟩ = some (.int .i64 c.timeout) := cell_of_blk hg0
  rw [← hN, ← hn2, ← hn3, ← hn4, ← hn5]
  clear hj hm hN hn2 hn3 hn4 hn5 hgC hw0 hb0 hg0
  go_enter Try.func25, Try.ntmps25
  go_upto_region 1 with (fail)
  rw [show w.alloc (.cells #[.slice h.A1 N h.c1, .int .i64 c.job.parts, .slice h.A2 n2 h.c2, .slice h.A3 n3 h.c3, .slice h.A4 n4 h.c4, .int .i64 c.job.chunk, .int .i64 c.job.window, .int .i64 c.job.fuel, .slice h.A5 n5 h.c5, .int .i64 c.workers, .int .i64 c.tries, .int .i64 c.timeout] 28) = w0 from HW0.out.symm, ← HGC.out]
  go_wp2_with fail
  refine HMC.out.mono ?_
  rintro e w1 ⟨rfl, hb1⟩
  have HB1 := Aside0.mk (below_then HB0.out HB0.out.size hb1)
  have HG1 : Aside0 (w1.heap[gC]? = some (.cells ([.slice h.A1 N h.c1, .int .i64 c.job.parts, .slice h.A2 n2 h.c2, .slice h.A3 n3 h.c3, .slice h.A4 n4 h.c4, .int .i64 c.job.chunk, .int .i64 c.job.window, .int .i64 c.job.fuel, .slice h.A5 n5 h.c5, .int .i64 c.workers, .int .i64 c.tries, .int .i64 c.timeout] : List Value).toArray 28 (0, 0))) := ⟨(hb1.block gC (blk_lt' HG0.out)).trans HG0.out⟩
  clear hb1 HMC x0 x1 x2 x3 x4 x5 x6 x7 x8 x9 x10 x11
  go_wp2_with fail
  go_ret2
  exact ⟨rfl, HB1.out⟩
theorem S0 (c : CfgD) (k : Nat) : S_ (m0 c) k = zeroS := by
  show (List.replicate c.job.splits.length zeroS).getD k zeroS = zeroS
  rw [List.getD_eq_getElem?_getD, List.getElem?_replicate]
  split <;> rfl
set_option maxHeartbeats 12800000 in
theorem rfNew (c : CfgD) (h : CfH) (rs : List RecD) (AR : Option Addr) (cR : Nat) (w : World) (hj : JobH w c.job h) (hm : CfgMay c) (hr : Kd.C kRec w AR rs.length rs) :
    Calls Try.prog 25 #[.agg #[.slice h.A1 c.job.splits.length h.c1, .int .i64 c.job.parts, .slice h.A2 c.job.map.length h.c2, .slice h.A3 c.job.combine.length h.c3, .slice h.A4 c.job.reduce.length h.c4, .int .i64 c.job.chunk, .int .i64 c.job.window, .int .i64 c.job.fuel, .slice h.A5 c.job.marks.length h.c5, .int .i64 c.workers, .int .i64 c.tries, .int .i64 c.timeout], .slice AR rs.length cR] w fun e w' => ∃ gR F, e = .returned (.tuple #[.pointer (some ⟨gR, 0, none⟩), .int .i64 0]) ∧ RfR w' gR F c h (newF c rs) ∧ (∀ i, F i → w.heap.size ≤ i) ∧ Below w.heap.size w w' := by
  obtain ⟨N, hN⟩ : ∃ N, N = c.job.splits.length := ⟨_, rfl⟩
  obtain ⟨n2, hn2⟩ : ∃ N, N = c.job.map.length := ⟨_, rfl⟩
  obtain ⟨n3, hn3⟩ : ∃ N, N = c.job.combine.length := ⟨_, rfl⟩
  obtain ⟨n4, hn4⟩ : ∃ N, N = c.job.reduce.length := ⟨_, rfl⟩
  obtain ⟨n5, hn5⟩ : ∃ N, N = c.job.marks.length := ⟨_, rfl⟩
  obtain ⟨gC, hgC⟩ : ∃ g, g = w.heap.size := ⟨_, rfl⟩
  obtain ⟨w0, hw0⟩ : ∃ w0, w0 = w.alloc (.cells #[.slice h.A1 N h.c1, .int .i64 c.job.parts, .slice h.A2 n2 h.c2, .slice h.A3 n3 h.c3, .slice h.A4 n4 h.c4, .int .i64 c.job.chunk, .int .i64 c.job.window, .int .i64 c.job.fuel, .slice h.A5 n5 h.c5, .int .i64 c.workers, .int .i64 c.tries, .int .i64 c.timeout] 28) := ⟨_, rfl⟩
  have hb0 : Below w.heap.size w w0 := by rw [hw0]; exact (Below.refl _ _).alloc (Nat.le_refl _) _
  have hg0 : w0.heap[gC]? = some (.cells ([.slice h.A1 N h.c1, .int .i64 c.job.parts, .slice h.A2 n2 h.c2, .slice h.A3 n3 h.c3, .slice h.A4 n4 h.c4, .int .i64 c.job.chunk, .int .i64 c.job.window, .int .i64 c.job.fuel, .slice h.A5 n5 h.c5, .int .i64 c.workers, .int .i64 c.tries, .int .i64 c.timeout] : List Value).toArray 28 (0, 0)) := by rw [hw0, hgC]; exact alloc_at w _
  have huc := Try.underlying28
  have huj := Try.underlying26
  have hur := Try.underlying90
  have hum := Try.underlying75
  have HMC := Aside0.mk (refCfgMay c.job c.workers c.tries c.timeout h.A1 h.A2 h.A3 h.A4 h.A5 h.c1 h.c2 h.c3 h.c4 h.c5 w0 (JobC.below hj hb0) true (by simpa using hm))
  rw [← hN, ← hn2, ← hn3, ← hn4, ← hn5] at HMC
  have HJ := Aside0.mk hj
  have HMAY := Aside0.mk hm
  have HN := Aside0.mk (And.intro hN (And.intro hn2 (And.intro hn3 (And.intro hn4 hn5))))
  have HGC := Aside0.mk hgC
  have HW0 := Aside0.mk hw0
  have HB0 := Aside0.mk hb0
  have HG0 := Aside0.mk hg0
  have x0 : w0.cell? ⟨gC, 0, none⟩ = some (.slice h.A1 N h.c1) := cell_of_blk hg0
  have x1 : w0.cell? ⟨gC, 1, none⟩ = some (.int .i64 c.job.parts) := cell_of_blk hg0
  have x2 : w0.cell? ⟨gC, 2, none⟩ = some (.slice h.A2 n2 h.c2) := cell_of_blk hg0
  have x3 : w0.cell? ⟨gC, 3, none⟩ = some (.slice h.A3 n3 h.c3) := cell_of_blk hg0
  have x4 : w0.cell? ⟨gC, 4, none⟩ = some (.slice h.A4 n4 h.c4) := cell_of_blk hg0
  have x5 : w0.cell? ⟨gC, 5, none⟩ = some (.int .i64 c.job.chunk) := cell_of_blk hg0
  have x6 : w0.cell? ⟨gC, 6, none⟩ = some (.int .i64 c.job.window) := cell_of_blk hg0
  have x7 : w0.cell? ⟨gC, 7, none⟩ = some (.int .i64 c.job.fuel) := cell_of_blk hg0
  have x8 : w0.cell? ⟨gC, 8, none⟩ = some (.slice h.A5 n5 h.c5) := cell_of_blk hg0
  have x9 : w0.cell? ⟨gC, 9, none⟩ = some (.int .i64 c.workers) := cell_of_blk hg0
  have x10 : w0.cell? ⟨gC, 10, none⟩ = some (.int .i64 c.tries) := cell_of_blk hg0
  have x11 : w0.cell? ⟨gC, 11, none⟩ = some (.int .i64 c.timeout) := cell_of_blk hg0
  rw [← hN, ← hn2, ← hn3, ← hn4, ← hn5]
  obtain ⟨nr, hnr⟩ : ∃ n, n = rs.length := ⟨_, rfl⟩
  have hmr : nr ≤ 9223372036854775807 := by rw [hnr]; exact Kd.C_max hr
  have HNR := Aside0.mk hnr
  have HRS := Aside0.mk hr
  rw [← hnr]
  clear hj hm hN hn2 hn3 hn4 hn5 hgC hw0 hb0 hg0 hnr hr
  go_enter Try.func25, Try.ntmps25
  go_upto_region 1 with (fail)
  rw [show w.alloc (.cells #[.slice h.A1 N h.c1, .int .i64 c.job.parts, .slice h.A2 n2 h.c2, .slice h.A3 n3 h.c3, .slice h.A4 n4 h.c4, .int .i64 c.job.chunk, .int .i64 c.job.window, .int .i64 c.job.fuel, .slice h.A5 n5 h.c5, .int .i64 c.workers, .int .i64 c.tries, .int .i64 c.timeout] 28) = w0 from HW0.out.symm, ← HGC.out]
  go_wp2_with fail
  refine HMC.out.mono ?_
  rintro e w1 ⟨rfl, hb1⟩
  have HB1 := Aside0.mk (below_then HB0.out HB0.out.size hb1)
  have HG1 : Aside0 (w1.heap[gC]? = some (.cells ([.slice h.A1 N h.c1, .int .i64 c.job.parts, .slice h.A2 n2 h.c2, .slice h.A3 n3 h.c3, .slice h.A4 n4 h.c4, .int .i64 c.job.chunk, .int .i64 c.job.window, .int .i64 c.job.fuel, .slice h.A5 n5 h.c5, .int .i64 c.workers, .int .i64 c.tries, .int .i64 c.timeout] : List Value).toArray 28 (0, 0))) := ⟨(hb1.block gC (blk_lt' HG0.out)).trans HG0.out⟩
  clear hb1 HMC x0 x1 x2 x3 x4 x5 x6 x7 x8 x9 x10 x11
  have x0 : w1.cell? ⟨gC, 0, none⟩ = some (.slice h.A1 N h.c1) := cell_of_blk HG1.out
  have x1 : w1.cell? ⟨gC, 1, none⟩ = some (.int .i64 c.job.parts) := cell_of_blk HG1.out
  have x2 : w1.cell? ⟨gC, 2, none⟩ = some (.slice h.A2 n2 h.c2) := cell_of_blk HG1.out
  have x3 : w1.cell? ⟨gC, 3, none⟩ = some (.slice h.A3 n3 h.c3) := cell_of_blk HG1.out
  have x4 : w1.cell? ⟨gC, 4, none⟩ = some (.slice h.A4 n4 h.c4) := cell_of_blk HG1.out
  have x5 : w1.cell? ⟨gC, 5, none⟩ = some (.int .i64 c.job.chunk) := cell_of_blk HG1.out
  have x6 : w1.cell? ⟨gC, 6, none⟩ = some (.int .i64 c.job.window) := cell_of_blk HG1.out
  have x7 : w1.cell? ⟨gC, 7, none⟩ = some (.int .i64 c.job.fuel) := cell_of_blk HG1.out
  have x8 : w1.cell? ⟨gC, 8, none⟩ = some (.slice h.A5 n5 h.c5) := cell_of_blk HG1.out
  have x9 : w1.cell? ⟨gC, 9, none⟩ = some (.int .i64 c.workers) := cell_of_blk HG1.out
  have x10 : w1.cell? ⟨gC, 10, none⟩ = some (.int .i64 c.tries) := cell_of_blk HG1.out
  have x11 : w1.cell? ⟨gC, 11, none⟩ = some (.int .i64 c.timeout) := cell_of_blk HG1.out
  obtain ⟨gR, hgR⟩ : ∃ g, g = w1.heap.size := ⟨_, rfl⟩
  obtain ⟨w3, hw3⟩ : ∃ w3, w3 = w1.alloc (.cells #[.slice h.A1 N h.c1, .int .i64 c.job.parts, .slice h.A2 n2 h.c2, .slice h.A3 n3 h.c3, .slice h.A4 n4 h.c4, .int .i64 c.job.chunk, .int .i64 c.job.window, .int .i64 c.job.fuel, .slice h.A5 n5 h.c5, .int .i64 c.workers, .int .i64 c.tries, .int .i64 c.timeout, .int .i64 0, .int .i64 0, .int .i64 0, .int .i64 0, .int .i64 0, .int .i64 0, .int .i64 0, .int .i64 0, .int .i64 0, .int .i64 0, .int .i64 0, .int .i64 0, .int .i64 0, .int .i64 0, .int .i64 0, .int .i64 0, .int .i64 0, .int .i64 0, .int .i64 0, .int .i64 0, .int .i64 0, .int .i64 0, .int .i64 0, .int .i64 0, .int .i64 0, .slice none 0 0, .slice none 0 0, .slice none 0 0, .slice none 0 0, .slice none 0 0, .slice none 0 0, .bool false, .bool false, .bool false, .bool false, .int .i64 0, .int .i64 0, .int .i64 0] 75) := ⟨_, rfl⟩
  have hb3 : Below w1.heap.size w1 w3 := by rw [hw3]; exact (Below.refl _ _).alloc (Nat.le_refl _) _
  have hg3 : w3.heap[gR]? = some (.cells ([.slice h.A1 N h.c1, .int .i64 c.job.parts, .slice h.A2 n2 h.c2, .slice h.A3 n3 h.c3, .slice h.A4 n4 h.c4, .int .i64 c.job.chunk, .int .i64 c.job.window, .int .i64 c.job.fuel, .slice h.A5 n5 h.c5, .int .i64 c.workers, .int .i64 c.tries, .int .i64 c.timeout, .int .i64 0, .int .i64 0, .int .i64 0, .int .i64 0, .int .i64 0, .int .i64 0, .int .i64 0, .int .i64 0, .int .i64 0, .int .i64 0, .int .i64 0, .int .i64 0, .int .i64 0, .int .i64 0, .int .i64 0, .int .i64 0, .int .i64 0, .int .i64 0, .int .i64 0, .int .i64 0, .int .i64 0, .int .i64 0, .int .i64 0, .int .i64 0, .int .i64 0, .slice none 0 0, .slice none 0 0, .slice none 0 0, .slice none 0 0, .slice none 0 0, .slice none 0 0, .bool false, .bool false, .bool false, .bool false, .int .i64 0, .int .i64 0, .int .i64 0] : List Value).toArray 75 (0, 0)) := by rw [hw3, hgR]; exact alloc_at w1 _
  have hltC : gC < gR := by have := blk_lt' HG1.out; omega
  have hlw : w.heap.size ≤ gR := by have := HB1.out.size; omega
  have HB3 := Aside0.mk (below_then HB1.out HB1.out.size hb3)
  have HC3 : Aside0 (w3.heap[gC]? = some (.cells ([.slice h.A1 N h.c1, .int .i64 c.job.parts, .slice h.A2 n2 h.c2, .slice h.A3 n3 h.c3, .slice h.A4 n4 h.c4, .int .i64 c.job.chunk, .int .i64 c.job.window, .int .i64 c.job.fuel, .slice h.A5 n5 h.c5, .int .i64 c.workers, .int .i64 c.tries, .int .i64 c.timeout] : List Value).toArray 28 (0, 0))) := ⟨(hb3.block gC (blk_lt' HG1.out)).trans HG1.out⟩
  have HST3 : Aside0 (∃ F cv ok, RfP w3 gR F c h (newK c rs 0) cv ok ∧ ∀ j, F j → gR ≤ j) := ⟨by
    refine ⟨fun j => j = gR, fun _ => .slice none 0 0, fun _ => False, ⟨?_, fun w' hc => JobC.below HJ.out (Below.ch HB3.out hc HB3.out.size (fun i hi => by rw [hi]; exact hlw)), fun k hk hw => ?_, fun k hw => ?_, fun k hk => hk.elim, rfl, fun k hk => by rw [hk]; exact blk_lt' hg3, List.length_replicate .., rfl, HMAY.out⟩, fun j hj => by rw [hj]; exact Nat.le_refl _⟩
    · have e : rfCells c h (newK c rs 0) (fun _ => .slice none 0 0) = [.slice h.A1 N h.c1, .int .i64 c.job.parts, .slice h.A2 n2 h.c2, .slice h.A3 n3 h.c3, .slice h.A4 n4 h.c4, .int .i64 c.job.chunk, .int .i64 c.job.window, .int .i64 c.job.fuel, .slice h.A5 n5 h.c5, .int .i64 c.workers, .int .i64 c.tries, .int .i64 c.timeout, .int .i64 0, .int .i64 0, .int .i64 0, .int .i64 0, .int .i64 0, .int .i64 0, .int .i64 0, .int .i64 0, .int .i64 0, .int .i64 0, .int .i64 0, .int .i64 0, .int .i64 0, .int .i64 0, .int .i64 0, .int .i64 0, .int .i64 0, .int .i64 0, .int .i64 0, .int .i64 0, .int .i64 0, .int .i64 0, .int .i64 0, .int .i64 0, .int .i64 0, .slice none 0 0, .slice none 0 0, .slice none 0 0, .slice none 0 0, .slice none 0 0, .slice none 0 0, .bool false, .bool false, .bool false, .bool false, .int .i64 0, .int .i64 0, .int .i64 0] := by
        show rfCells c h (m0 c) _ = _
        unfold rfCells
        simp only [S0, cfg12]
        rw [HN.out.1, HN.out.2.1, HN.out.2.2.1, HN.out.2.2.2.1, HN.out.2.2.2.2]
        rfl
      rw [e]
      exact hg3
    · rw [show S_ (newK c rs 0) k = zeroS from S0 c k] at hw
      cases hw
    · rw [show S_ (newK c rs 0) k = zeroS from S0 c k] at hw
      cases hw⟩
  have HW3 := Aside0.mk (And.intro hw3 hgR)
  have HGR3 := Aside0.mk (And.intro hltC hlw)
  clear hw3 hgR hb3 hg3 hltC hlw
  go_upto_region 4 with (fail)
  rw [show w1.alloc (.cells #[.slice h.A1 N h.c1, .int .i64 c.job.parts, .slice h.A2 n2 h.c2, .slice h.A3 n3 h.c3, .slice h.A4 n4 h.c4, .int .i64 c.job.chunk, .int .i64 c.job.window, .int .i64 c.job.fuel, .slice h.A5 n5 h.c5, .int .i64 c.workers, .int .i64 c.tries, .int .i64 c.timeout, .int .i64 0, .int .i64 0, .int .i64 0, .int .i64 0, .int .i64 0, .int .i64 0, .int .i64 0, .int .i64 0, .int .i64 0, .int .i64 0, .int .i64 0, .int .i64 0, .int .i64 0, .int .i64 0, .int .i64 0, .int .i64 0, .int .i64 0, .int .i64 0, .int .i64 0, .int .i64 0, .int .i64 0, .int .i64 0, .int .i64 0, .int .i64 0, .int .i64 0, .slice none 0 0, .slice none 0 0, .slice none 0 0, .slice none 0 0, .slice none 0 0, .slice none 0 0, .bool false, .bool false, .bool false, .bool false, .int .i64 0, .int .i64 0, .int .i64 0] 75) = w3 from HW3.out.1.symm, ← HW3.out.2]
  clear x0 x1 x2 x3 x4 x5 x6 x7 x8 x9 x10 x11
  go_wp2_with fail
  go_loopg [7, 8] nr (fun kq v7 v8 w' => ∃ (i : Nat), i + kq = nr ∧ v7 = .int .i64 i ∧ Aside0 (∃ F cv ok, RfP w' gR F c h (newK c rs i) cv ok ∧ ∀ j, F j → gR ≤ j) ∧ Aside0 (Below w.heap.size w w') ∧ Aside0 (w'.heap[gC]? = some (.cells ([.slice h.A1 N h.c1, .int .i64 c.job.parts, .slice h.A2 n2 h.c2, .slice h.A3 n3 h.c3, .slice h.A4 n4 h.c4, .int .i64 c.job.chunk, .int .i64 c.job.window, .int .i64 c.job.fuel, .slice h.A5 n5 h.c5, .int .i64 c.workers, .int .i64 c.tries, .int .i64 c.timeout] : List Value).toArray 28 (0, 0))))
  case atStart => exact ⟨0, by omega, rfl, HST3, HB3, HC3⟩
  case round =>
    obtain ⟨i, hi, rfl, HMK, HB, HCB⟩ := hrel
    by_cases hlt : i < nr
    case' neg =>
      obtain rfl : nr = i := by omega
      have hltI : ¬ (nr : Int) < nr := by omega
      obtain ⟨F, cv, ok, hp, hFF⟩ := HMK.out
      have HF : Aside0 (RfR wr gR F c h (newF c rs) ∧ ∀ j, F j → w.heap.size ≤ j) := ⟨⟨by rw [← newK_all, ← HNR.out]; exact ⟨cv, ok, hp⟩, fun j hj => Nat.le_trans HGR3.out.2 (hFF j hj)⟩⟩
      clear hp hFF
      go_wp2_with fail
      go_ret2
      first | exact ⟨gR, F, rfl, HF.out.1, HF.out.2, HB.out⟩ | exact ⟨gR, rfl, F, HF.out.1, HF.out.2, HB.out⟩
    have hltI : (i : Int) < nr := by omega
    have hi0 : (0 : Int) ≤ (i : Int) := by omega
    have hil : i < rs.length := by rw [← HNR.out]; exact hlt
    obtain ⟨ad, A1, A7, c1, c7, rfl, hRC, hcells⟩ := at_rec HRS.out i hil zeroRec
    replace hcells : ∀ j u, (rawR rs[i] (.slice A1 rs[i].set.length c1) (.slice A7 rs[i].prs.length c7))[j]? = some u → wr.cell? (ad.add (i * 7 + j)) = some u := fun j u hu => (HB.out.cell (World.block_lt_of_cell? _ _ (hcells j u hu))).trans (hcells j u hu)
    obtain ⟨b0, b1, b2, b3, b4, b5, b6⟩ := RecAt.of hcells
    obtain ⟨x, hx⟩ : ∃ x, x = rs[i] := ⟨_, rfl⟩
    rw [← hx] at b0 b1 b2 b3 b4 b5 b6 hRC
    obtain ⟨ls, hls⟩ : ∃ n, n = x.set.length := ⟨_, rfl⟩
    obtain ⟨lp, hlp⟩ : ∃ n, n = x.prs.length := ⟨_, rfl⟩
    rw [← hls] at b5
    rw [← hlp] at b6
    obtain ⟨g, hg⟩ : ∃ g, g = wr.heap.size := ⟨_, rfl⟩
    obtain ⟨w2, hw2⟩ : ∃ w2, w2 = wr.alloc (.cells #[.int .i64 x.k, .int .i64 x.p, .int .i64 x.s, .int .i64 x.a, .int .i64 x.r, .slice A1 ls c1, .slice A7 lp c7] 90) := ⟨_, rfl⟩
    have hb2 : Below wr.heap.size wr w2 := by rw [hw2]; exact (Below.refl _ _).alloc (Nat.le_refl _) _
    have hg2 : w2.heap[g]? = some (.cells ([.int .i64 x.k, .int .i64 x.p, .int .i64 x.s, .int .i64 x.a, .int .i64 x.r, .slice A1 ls c1, .slice A7 lp c7] : List Value).toArray 90 (0, 0)) := by rw [hw2, hg]; exact alloc_at wr _
    obtain ⟨F, cv, ok, hp, hFF⟩ := HMK.out
    have HQ2 := Aside0.mk (hp.below hb2)
    have HFF := Aside0.mk hFF
    have HGR : Aside0 (g ≠ gR) := ⟨by have := hp.flt _ hp.fR; omega⟩
    have HGF : Aside0 (¬ F g) := ⟨fun hh => by have := hp.flt _ hh; omega⟩
    have HB2 : Aside0 (Below w.heap.size w w2) := ⟨below_then HB.out HB.out.size hb2⟩
    have HC2 : Aside0 (w2.heap[gC]? = some (.cells ([.slice h.A1 N h.c1, .int .i64 c.job.parts, .slice h.A2 n2 h.c2, .slice h.A3 n3 h.c3, .slice h.A4 n4 h.c4, .int .i64 c.job.chunk, .int .i64 c.job.window, .int .i64 c.job.fuel, .slice h.A5 n5 h.c5, .int .i64 c.workers, .int .i64 c.tries, .int .i64 c.timeout] : List Value).toArray 28 (0, 0))) := ⟨(hb2.block gC (blk_lt' HCB.out)).trans HCB.out⟩
    have HIL := Aside0.mk hil
    have HX : Aside0 (x = rs[i]'HIL.out) := ⟨hx⟩
    have HLS := Aside0.mk hls
    have HW2 := Aside0.mk (And.intro hw2 hg)
    have HG2 := Aside0.mk hg2
    have HXR : Aside0 (∀ w', Below w.heap.size w w' → Kd.C kI w' A1 x.set.length x.set) := ⟨fun w' hb => Kd.C_below hRC.s hb⟩
    clear hp hFF hcells hRC hx hls hlp hg hw2 hb2 hg2 HMK hil
    go_upto_region 8 with (fail)
    rw [show wr.alloc (.cells #[.int .i64 x.k, .int .i64 x.p, .int .i64 x.s, .int .i64 x.a, .int .i64 x.r, .slice A1 ls c1, .slice A7 lp c7] 90) = w2 from HW2.out.1.symm, ← HW2.out.2]
    clear b0 b1 b2 b3 b4 b5 b6
    have b0 : w2.cell? ⟨g, 0, none⟩ = some (.int .i64 x.k) := cell_of_blk HG2.out
    have b2 : w2.cell? ⟨g, 2, none⟩ = some (.int .i64 x.s) := cell_of_blk HG2.out
    have b3 : w2.cell? ⟨g, 3, none⟩ = some (.int .i64 x.a) := cell_of_blk HG2.out
    have b4 : w2.cell? ⟨g, 4, none⟩ = some (.int .i64 x.r) := cell_of_blk HG2.out
    have b5 : w2.cell? ⟨g, 5, none⟩ = some (.slice A1 ls c1) := cell_of_blk HG2.out
    have e1 : w2.cell? ⟨gC, 1, none⟩ = some (.int .i64 c.job.parts) := cell_of_blk HC2.out
    have e10 : w2.cell? ⟨gC, 10, none⟩ = some (.int .i64 c.tries) := cell_of_blk HC2.out
    have bst := HQ2.out.c_st
    by_cases hk1 : x.k = 1
    · have HK := Aside0.mk hk1
      rw [hk1] at b0
      clear hk1
      by_cases h0 : 0 ≤ x.s ∧ x.s < ((newK c rs i).sp.length : Int)
      case' neg =>
        have HHB : Aside0 (false = decide (0 ≤ x.s ∧ x.s < ((newK c rs i).sp.length : Int))) := ⟨(decide_eq_false h0).symm⟩
        have HNB : Aside0 (openN (newK c rs i) x.s = none) := ⟨by unfold openN; rw [if_neg (fun hh => h0 ⟨hh.1, hh.2.1⟩)]⟩
        clear h0
        have HST : Aside0 (newK c rs (i + 1) = newK c rs i) := ⟨by rw [newK_succ c rs i HIL.out, ← HX.out]; unfold recF; rw [if_pos HK.out, HNB.out]; split <;> rfl⟩
        have HNS : Aside0 (∀ w', HeldN w2 w' → (∃ F cv ok, RfP w' gR F c h (newK c rs (i + 1)) cv ok ∧ ∀ j, F j → gR ≤ j) ∧ Below w.heap.size w w' ∧ w'.heap[gC]? = some (.cells ([.slice h.A1 N h.c1, .int .i64 c.job.parts, .slice h.A2 n2 h.c2, .slice h.A3 n3 h.c3, .slice h.A4 n4 h.c4, .int .i64 c.job.chunk, .int .i64 c.job.window, .int .i64 c.job.fuel, .slice h.A5 n5 h.c5, .int .i64 c.workers, .int .i64 c.tries, .int .i64 c.timeout] : List Value).toArray 28 (0, 0))) := ⟨fun w' hw => ⟨⟨F, cv, ok, by rw [HST.out]; exact HQ2.out.below hw, HFF.out⟩, below_then HB2.out HB2.out.size hw, (hw.block gC (blk_lt' HC2.out)).trans HC2.out⟩⟩
        have HHAS : Aside0 (∀ w', HeldN w2 w' → Calls Try.prog 55 #[.pointer (some ⟨gR, 0, none⟩), .int .i64 x.s] w' fun e w'' => e = .returned (.bool false) ∧ w'' = w') := ⟨fun w' hw => rfHas (HQ2.out.below hw) _ false HHB.out⟩
        go_upto_region 10 with (fail)
        go_quiet ((go_at_call 55; exact (HHAS.out _ (pw_below_drewN (Below.refl _ _) _)).mono (fun e w' h => ⟨h.1, _, h.2⟩)))
        go_wp2_with fail
        go_roundg (nr - (i + 1))
        case measure => omega
        case rel => exact ⟨i + 1, by omega, by go_num, ⟨(HNS.out _ (pw_below_drewN (Below.refl _ _) _)).1⟩, ⟨(HNS.out _ (pw_below_drewN (Below.refl _ _) _)).2.1⟩, ⟨(HNS.out _ (pw_below_drewN (Below.refl _ _) _)).2.2⟩⟩
      have HHB : Aside0 (true = decide (0 ≤ x.s ∧ x.s < ((newK c rs i).sp.length : Int))) := ⟨(decide_eq_true h0).symm⟩
      obtain ⟨k, hk⟩ : ∃ k : Nat, x.s = k := ⟨x.s.toNat, by omega⟩
      have hkl : k < (newK c rs i).sp.length := by omega
      have hk6 : k < 6 := by have := HQ2.out.len; have := HQ2.out.n6; omega
      have HKL := Aside0.mk hkl
      have HK6 := Aside0.mk hk6
      have HKE := Aside0.mk hk
      have HHB := hk ▸ HHB
      have HG2 : Aside0 (w2.heap[g]? = some (.cells ([.int .i64 (1 : Int), .int .i64 x.p, .int .i64 (k : Int), .int .i64 x.a, .int .i64 x.r, .slice A1 ls c1, .slice A7 lp c7] : List Value).toArray 90 (0, 0))) := ⟨by have := HG2.out; rw [hk, HK.out] at this; exact this⟩
      have hkI : (k : Int) < 6 := by omega
      have hk0 : (0 : Int) ≤ (k : Int) := by omega
      rw [hk] at b2
      obtain ⟨z, hz⟩ : ∃ z, z = wonI (S_ (newK c rs i) k) := ⟨_, rfl⟩
      have hwz := wonI_zero HQ2.out k
      have f31 := HQ2.out.c_won k hk6
      rw [← hz] at hwz f31
      have a31 := add13 gR 31 k
      clear hkl hk6 h0 hz hk
      by_cases h3 : (ls : Int) = c.job.parts
      case' neg =>
        have h3' : ((ls : Int) == c.job.parts) = false := beq_eq_false_iff_ne.2 h3
        have HNL : Aside0 ((x.set.length : Int) ≠ c.job.parts) := ⟨by rw [← HLS.out]; exact h3⟩
        have HST : Aside0 (newK c rs (i + 1) = newK c rs i) := ⟨by rw [newK_succ c rs i HIL.out, ← HX.out]; unfold recF; rw [if_pos HK.out, if_neg (fun h => HNL.out h.1)]⟩
        have HNS : Aside0 (∀ w', HeldN w2 w' → (∃ F cv ok, RfP w' gR F c h (newK c rs (i + 1)) cv ok ∧ ∀ j, F j → gR ≤ j) ∧ Below w.heap.size w w' ∧ w'.heap[gC]? = some (.cells ([.slice h.A1 N h.c1, .int .i64 c.job.parts, .slice h.A2 n2 h.c2, .slice h.A3 n3 h.c3, .slice h.A4 n4 h.c4, .int .i64 c.job.chunk, .int .i64 c.job.window, .int .i64 c.job.fuel, .slice h.A5 n5 h.c5, .int .i64 c.workers, .int .i64 c.tries, .int .i64 c.timeout] : List Value).toArray 28 (0, 0))) := ⟨fun w' hw => ⟨⟨F, cv, ok, by rw [HST.out]; exact HQ2.out.below hw, HFF.out⟩, below_then HB2.out HB2.out.size hw, (hw.block gC (blk_lt' HC2.out)).trans HC2.out⟩⟩
        have HHAS : Aside0 (∀ w', HeldN w2 w' → Calls Try.prog 55 #[.pointer (some ⟨gR, 0, none⟩), .int .i64 (k : Int)] w' fun e w'' => e = .returned (.bool true) ∧ w'' = w') := ⟨fun w' hw => rfHas (HQ2.out.below hw) _ true HHB.out⟩
        go_upto_region 10 with (fail)
        go_quiet ((go_at_call 55; exact (HHAS.out _ (pw_below_drewN (Below.refl _ _) _)).mono (fun e w' h => ⟨h.1, _, h.2⟩)))
        go_wp2_with fail
        go_roundg (nr - (i + 1))
        case measure => omega
        case rel => exact ⟨i + 1, by omega, by go_num, ⟨(HNS.out _ (pw_below_drewN (Below.refl _ _) _)).1⟩, ⟨(HNS.out _ (pw_below_drewN (Below.refl _ _) _)).2.1⟩, ⟨(HNS.out _ (pw_below_drewN (Below.refl _ _) _)).2.2⟩⟩
      have h3' : ((ls : Int) == c.job.parts) = true := by rw [h3]; simp
      have HPL : Aside0 ((x.set.length : Int) = c.job.parts) := ⟨by rw [← HLS.out]; exact h3⟩
      have HP1 : Aside0 (ls ≤ 100000000) := ⟨by have := HQ2.out.may.job.parts.2; omega⟩
      by_cases h1 : 1 ≤ x.a
      case' neg =>
        have h1' := decide_eq_false h1
        have HA1 : Aside0 (¬ 1 ≤ x.a) := ⟨h1⟩
        have HST : Aside0 (newK c rs (i + 1) = newK c rs i) := ⟨by rw [newK_succ c rs i HIL.out, ← HX.out]; unfold recF; rw [if_pos HK.out, if_neg (fun h => HA1.out h.2.1)]⟩
        have HNS : Aside0 (∀ w', HeldN w2 w' → (∃ F cv ok, RfP w' gR F c h (newK c rs (i + 1)) cv ok ∧ ∀ j, F j → gR ≤ j) ∧ Below w.heap.size w w' ∧ w'.heap[gC]? = some (.cells ([.slice h.A1 N h.c1, .int .i64 c.job.parts, .slice h.A2 n2 h.c2, .slice h.A3 n3 h.c3, .slice h.A4 n4 h.c4, .int .i64 c.job.chunk, .int .i64 c.job.window, .int .i64 c.job.fuel, .slice h.A5 n5 h.c5, .int .i64 c.workers, .int .i64 c.tries, .int .i64 c.timeout] : List Value).toArray 28 (0, 0))) := ⟨fun w' hw => ⟨⟨F, cv, ok, by rw [HST.out]; exact HQ2.out.below hw, HFF.out⟩, below_then HB2.out HB2.out.size hw, (hw.block gC (blk_lt' HC2.out)).trans HC2.out⟩⟩
        have HHAS : Aside0 (∀ w', HeldN w2 w' → Calls Try.prog 55 #[.pointer (some ⟨gR, 0, none⟩), .int .i64 (k : Int)] w' fun e w'' => e = .returned (.bool true) ∧ w'' = w') := ⟨fun w' hw => rfHas (HQ2.out.below hw) _ true HHB.out⟩
        go_upto_region 10 with (fail)
        go_quiet ((go_at_call 55; exact (HHAS.out _ (pw_below_drewN (Below.refl _ _) _)).mono (fun e w' h => ⟨h.1, _, h.2⟩)))
        go_wp2_with fail
        go_roundg (nr - (i + 1))
        case measure => omega
        case rel => exact ⟨i + 1, by omega, by go_num, ⟨(HNS.out _ (pw_below_drewN (Below.refl _ _) _)).1⟩, ⟨(HNS.out _ (pw_below_drewN (Below.refl _ _) _)).2.1⟩, ⟨(HNS.out _ (pw_below_drewN (Below.refl _ _) _)).2.2⟩⟩
      have h1' := decide_eq_true h1
      have HA1 : Aside0 (1 ≤ x.a) := ⟨h1⟩
      by_cases h2 : x.a ≤ c.tries
      case' neg =>
        have h2' := decide_eq_false h2
        have HA2 : Aside0 (¬ x.a ≤ c.tries) := ⟨h2⟩
        have HST : Aside0 (newK c rs (i + 1) = newK c rs i) := ⟨by rw [newK_succ c rs i HIL.out, ← HX.out]; unfold recF; rw [if_pos HK.out, if_neg (fun h => HA2.out h.2.2)]⟩
        have HNS : Aside0 (∀ w', HeldN w2 w' → (∃ F cv ok, RfP w' gR F c h (newK c rs (i + 1)) cv ok ∧ ∀ j, F j → gR ≤ j) ∧ Below w.heap.size w w' ∧ w'.heap[gC]? = some (.cells ([.slice h.A1 N h.c1, .int .i64 c.job.parts, .slice h.A2 n2 h.c2, .slice h.A3 n3 h.c3, .slice h.A4 n4 h.c4, .int .i64 c.job.chunk, .int .i64 c.job.window, .int .i64 c.job.fuel, .slice h.A5 n5 h.c5, .int .i64 c.workers, .int .i64 c.tries, .int .i64 c.timeout] : List Value).toArray 28 (0, 0))) := ⟨fun w' hw => ⟨⟨F, cv, ok, by rw [HST.out]; exact HQ2.out.below hw, HFF.out⟩, below_then HB2.out HB2.out.size hw, (hw.block gC (blk_lt' HC2.out)).trans HC2.out⟩⟩
        have HHAS : Aside0 (∀ w', HeldN w2 w' → Calls Try.prog 55 #[.pointer (some ⟨gR, 0, none⟩), .int .i64 (k : Int)] w' fun e w'' => e = .returned (.bool true) ∧ w'' = w') := ⟨fun w' hw => rfHas (HQ2.out.below hw) _ true HHB.out⟩
        go_upto_region 10 with (fail)
        go_quiet ((go_at_call 55; exact (HHAS.out _ (pw_below_drewN (Below.refl _ _) _)).mono (fun e w' h => ⟨h.1, _, h.2⟩)))
        go_wp2_with fail
        go_roundg (nr - (i + 1))
        case measure => omega
        case rel => exact ⟨i + 1, by omega, by go_num, ⟨(HNS.out _ (pw_below_drewN (Below.refl _ _) _)).1⟩, ⟨(HNS.out _ (pw_below_drewN (Below.refl _ _) _)).2.1⟩, ⟨(HNS.out _ (pw_below_drewN (Below.refl _ _) _)).2.2⟩⟩
      have h2' := decide_eq_true h2
      have HA2 : Aside0 (x.a ≤ c.tries) := ⟨h2⟩
      by_cases hw : (S_ (newK c rs i) k).won = false
      case' neg =>
        have hz0 : ¬ z = 0 := fun hh => hw (hwz.1 hh)
        have hz1 : (z == 0) = false := beq_eq_false_iff_ne.2 hz0
        have HNB : Aside0 (openN (newK c rs i) x.s = none) := ⟨by unfold openN; rw [HKE.out, if_neg (fun hh => hw (by have := hh.2.2; rw [Int.toNat_natCast] at this; exact this))]⟩
        clear hw hwz
        have HST : Aside0 (newK c rs (i + 1) = newK c rs i) := ⟨by rw [newK_succ c rs i HIL.out, ← HX.out]; unfold recF; rw [if_pos HK.out, HNB.out]; split <;> rfl⟩
        have HNS : Aside0 (∀ w', HeldN w2 w' → (∃ F cv ok, RfP w' gR F c h (newK c rs (i + 1)) cv ok ∧ ∀ j, F j → gR ≤ j) ∧ Below w.heap.size w w' ∧ w'.heap[gC]? = some (.cells ([.slice h.A1 N h.c1, .int .i64 c.job.parts, .slice h.A2 n2 h.c2, .slice h.A3 n3 h.c3, .slice h.A4 n4 h.c4, .int .i64 c.job.chunk, .int .i64 c.job.window, .int .i64 c.job.fuel, .slice h.A5 n5 h.c5, .int .i64 c.workers, .int .i64 c.tries, .int .i64 c.timeout] : List Value).toArray 28 (0, 0))) := ⟨fun w' hw => ⟨⟨F, cv, ok, by rw [HST.out]; exact HQ2.out.below hw, HFF.out⟩, below_then HB2.out HB2.out.size hw, (hw.block gC (blk_lt' HC2.out)).trans HC2.out⟩⟩
        have HHAS : Aside0 (∀ w', HeldN w2 w' → Calls Try.prog 55 #[.pointer (some ⟨gR, 0, none⟩), .int .i64 (k : Int)] w' fun e w'' => e = .returned (.bool true) ∧ w'' = w') := ⟨fun w' hw => rfHas (HQ2.out.below hw) _ true HHB.out⟩
        go_upto_region 10 with (fail)
        go_quiet ((go_at_call 55; exact (HHAS.out _ (pw_below_drewN (Below.refl _ _) _)).mono (fun e w' h => ⟨h.1, _, h.2⟩)))
        go_wp2_with fail
        go_roundg (nr - (i + 1))
        case measure => omega
        case rel => exact ⟨i + 1, by omega, by go_num, ⟨(HNS.out _ (pw_below_drewN (Below.refl _ _) _)).1⟩, ⟨(HNS.out _ (pw_below_drewN (Below.refl _ _) _)).2.1⟩, ⟨(HNS.out _ (pw_below_drewN (Below.refl _ _) _)).2.2⟩⟩
      have hz0 : z = 0 := hwz.2 hw
      have hz1 : (z == 0) = true := by rw [hz0]; rfl
      have HOP : Aside0 (openN (newK c rs i) x.s = some k) := ⟨by unfold openN; rw [HKE.out, if_pos ⟨by omega, by have := HKL.out; omega, by rw [Int.toNat_natCast]; exact hw⟩, Int.toNat_natCast]⟩
      have HST : Aside0 (newK c rs (i + 1) = winK (newK c rs i) k x.a x.set) := ⟨by rw [newK_succ c rs i HIL.out, ← HX.out]; unfold recF; rw [if_pos HK.out, if_pos ⟨HPL.out, HA1.out, HA2.out⟩, HOP.out]⟩
      clear hw hwz
      have HHAS : Aside0 (∀ w', HeldN w2 w' → Calls Try.prog 55 #[.pointer (some ⟨gR, 0, none⟩), .int .i64 (k : Int)] w' fun e w'' => e = .returned (.bool true) ∧ w'' = w') := ⟨fun w' hw => rfHas (HQ2.out.below hw) _ true HHB.out⟩
      go_upto_region 10 with (fail)
      go_quiet ((go_at_call 55; exact (HHAS.out _ (pw_below_drewN (Below.refl _ _) _)).mono (fun e w' h => ⟨h.1, _, h.2⟩)))
      obtain ⟨wq, hwq⟩ : ∃ wq, wq = w2.drewN nq := ⟨_, rfl⟩
      have HHQ : Aside0 (HeldN w2 wq) := ⟨by rw [hwq]; exact pw_below_drewN (Below.refl w2.heap.size w2) _⟩
      rw [← hwq]
      clear hwq HHAS f31 a31 hz1 h1 h2 h3 h1' h2' h3' e1 e10 bst b0 b2 b3 b4 b5
      subst hz0
      have HQ := Aside0.mk (HQ2.out.below HHQ.out)
      have HBX := Aside0.mk ((HHQ.out.block g (blk_lt' HG2.out)).trans HG2.out)
      have HBQ := Aside0.mk (below_then HB2.out HB2.out.size HHQ.out)
      have HFAR : Aside0 (∀ w', Ch wq w' F → Kd.C kI w' A1 x.set.length x.set) := ⟨fun w' hc => HXR.out w' (Below.ch HBQ.out hc HBQ.out.size (fun j hj => Nat.le_trans HGR3.out.2 (HFF.out j hj)))⟩
      have b1 : wq.cell? ⟨g, 2, none⟩ = some (.int .i64 (k : Int)) := cell_of_blk HBX.out
      have b2 : wq.cell? ⟨g, 3, none⟩ = some (.int .i64 x.a) := cell_of_blk HBX.out
      have d1 : wq.drew.cell? ⟨g, 2, none⟩ = some (.int .i64 (k : Int)) := b1
      have d2 : wq.drew.cell? ⟨g, 3, none⟩ = some (.int .i64 x.a) := b2
      have f31 := HQ.out.c_won k HK6.out
      have z31 := HQ.out.fr (31 + k)
      have a31 := add13 gR 31 k
      go_upto_region 11 with (fail)
      go_region
      all_goals
        obtain ⟨w8, hw8⟩ : ∃ w', w' = (wq.setCell ⟨gR, 31 + k, none⟩ (.int .i64 x.a)).drew := ⟨_, rfl⟩
        rw [← hw8]
        have hc8 : Ch wq w8 (fun i => i = gR) := by rw [hw8]; exact ((Ch.refl wq (fun i => i = gR)).setCell _ _ rfl).trans (Ch.of_below (S := fun i => i = gR) (below_drew _)) (fun _ _ h => h)
        have HB8 := Aside0.mk (hc8.blk HBX.out HGR.out)
        have HW8 := Aside0.mk hw8
        have HL8 := Aside0.mk (HFAR.out w8 (hc8.mono (fun i hi => by rw [hi]; exact HQ.out.fR)))
        have HG8 : Aside0 (w8.heap[gR]? = some (.cells ((rfCells c h (newK c rs i) cv).set (31 + k) (.int .i64 x.a)).toArray 75 (0, 0))) := ⟨by
          rw [hw8]
          exact ((below_drew _).block gR (blk_lt' (setCell_blk HQ.out.blk _))).trans (setCell_blk HQ.out.blk _)⟩
        clear b1 b2 d1 d2 f31 z31 a31 hw8 hc8
        have h37 : ∀ u, ((rfCells c h (newK c rs i) cv).set (31 + k) u)[37 + k]? = some (cv k) := fun u => by
          rw [List.getElem?_set_ne (by omega)]
          have := HQ.out.c_cnt k HK6.out
          rw [cell_of_blk HQ.out.blk] at this
          exact this
        have H37 := Aside0.mk h37
        clear h37
        have HK0 : Aside0 (∀ w', HeldN w8 w' → (w'.cell? ⟨g, 2, none⟩ = some (.int .i64 (k : Int)) ∧ w'.cell? ⟨g, 5, none⟩ = some (.slice A1 ls c1))) := ⟨fun w' hw => by
          have hq := (hw.block g (blk_lt' HB8.out)).trans HB8.out
          exact ⟨cell_of_blk hq, cell_of_blk hq⟩⟩
        have hh0 : HeldN w8 w8 := Below.refl _ _
        have hhd : ∀ w', HeldN w8 w' → HeldN w8 w'.drew := fun w' h => h.then_ (below_drew w')
        have HAPP : Aside0 (∀ w', HeldN w8 w' → ∀ ty, Runs Try.prog (Builtin.append_ #[24, 24] ty #[.slice none 0 0, .slice A1 ls c1]) w' fun v w9 => ∃ A9 n9, v = .slice A9 ls n9 ∧ (w9.cell? ⟨g, 2, none⟩ = some (.int .i64 (k : Int)) ∧ w9.cell? ⟨g, 5, none⟩ = some (.slice A1 ls c1)) ∧ w9.cell? ⟨gR, 37 + k, none⟩ = some (cv k) ∧ w9.frozen? ⟨gR, 37 + k, none⟩ = false ∧ (∀ u, ((w9.setCell ⟨gR, 37 + k, none⟩ u).cell? ⟨g, 2, none⟩ = some (.int .i64 (k : Int)) ∧ (w9.setCell ⟨gR, 37 + k, none⟩ u).cell? ⟨g, 5, none⟩ = some (.slice A1 ls c1))) ∧ Aside0 (Own kI 3 w9 w8.heap.size (.slice A9 ls n9) x.set ∧ HeldN w8 w9)) := ⟨fun w' hw ty => by
          refine (append_own_runs Try.prog (flat_int .i64) 24 ty _ 8 Try.underlying24 info_int rfl (by decide) (Own.nil kI 3 w' w8.heap.size) A1 ls c1 HLS.out (Kd.C_below HL8.out hw) hw.size (by have := HP1.out; have := HLS.out; rw [List.length_nil]; omega) (by have := HP1.out; have := HLS.out; rw [List.length_nil]; omega)).mono ?_
          rintro v w9 ⟨hO, hg9⟩
          rw [List.nil_append] at hO
          have h9 : HeldN w8 w9 := hw.then_ ((Below.refl w'.heap.size w').grown hg9 (Nat.le_refl _) (fun i hi => by cases hi))
          obtain ⟨A9, n9, rfl, _, _⟩ := hO.reads
          rw [← HLS.out] at hO ⊢
          have hq := (h9.block g (blk_lt' HB8.out)).trans HB8.out
          have hr := (h9.block gR (blk_lt' HG8.out)).trans HG8.out
          refine ⟨A9, n9, rfl, ⟨cell_of_blk hq, cell_of_blk hq⟩, ?_, frozen_of_blk hr, fun u => ?_, ⟨hO, h9⟩⟩
          · rw [cell_of_blk hr]; exact H37.out _
          · have hq2 := ((Ch.refl w9 (fun i => i = gR)).setCell ⟨gR, 37 + k, none⟩ u rfl).blk hq HGR.out
            exact ⟨cell_of_blk hq2, cell_of_blk hq2⟩⟩
        have a37 := add13 gR 37 k
        obtain ⟨k1, k2⟩ := HK0.out w8 hh0
        go_upto_region 12 with (fail)
        go_region_held_law (fun w' => (w'.cell? ⟨g, 2, none⟩ = some (.int .i64 (k : Int)) ∧ w'.cell? ⟨g, 5, none⟩ = some (.slice A1 ls c1))) (first | assumption | exact HK0.out _ (by first | assumption | exact hhd _ hh0) | exact hSS _)
          (first | (refine step_app_run rfl (.const (.slice none 0 0)) (.tmp 76) 24 rfl (.slice none 0 0) (.slice A1 ls c1) (by simp [Act.eval, Act.put]) (by simp [Act.eval, Act.put]) (HAPP.out _ (by first | assumption | exact hhd _ hh0)) ?_; rintro _ w9 ⟨A9, n9, rfl, hS9, f37, z37, hSS, hALL⟩))
        all_goals
          obtain ⟨hO9, hh9⟩ := hALL.out
          have hwE := HQ.out.wins k HKL.out HK6.out x.a HA1.out x.set HPL.out w8 w9 (.slice A9 ls n9) HW8.out hO9 hh9 _ rfl
          obtain ⟨F2, ok2, hp, hF2, hcE⟩ := hwE
          rw [← HST.out] at hp
          have hc2 : Ch w2 (w9.setCell ⟨gR, 37 + k, none⟩ (.slice A9 ls n9)) F := (Ch.of_below (S := F) HHQ.out).trans hcE (fun _ _ h => h)
          have HFIN : Aside0 ((∃ F cv ok, RfP (w9.setCell ⟨gR, 37 + k, none⟩ (.slice A9 ls n9)) gR F c h (newK c rs (i + 1)) cv ok ∧ ∀ j, F j → gR ≤ j) ∧ Below w.heap.size w (w9.setCell ⟨gR, 37 + k, none⟩ (.slice A9 ls n9)) ∧ (w9.setCell ⟨gR, 37 + k, none⟩ (.slice A9 ls n9)).heap[gC]? = some (.cells ([.slice h.A1 N h.c1, .int .i64 c.job.parts, .slice h.A2 n2 h.c2, .slice h.A3 n3 h.c3, .slice h.A4 n4 h.c4, .int .i64 c.job.chunk, .int .i64 c.job.window, .int .i64 c.job.fuel, .slice h.A5 n5 h.c5, .int .i64 c.workers, .int .i64 c.tries, .int .i64 c.timeout] : List Value).toArray 28 (0, 0))) := ⟨⟨F2, _, ok2, hp, fun j hj => by
              rcases hF2 j hj with h | h
              · exact HFF.out j h
              · have h1 := HQ.out.flt _ HQ.out.fR; omega⟩, Below.ch HB2.out hc2 HB2.out.size (fun j hj => Nat.le_trans HGR3.out.2 (HFF.out j hj)), hc2.blk HC2.out (fun hh => by have := HFF.out _ hh; have := HGR3.out.1; omega)⟩
          clear hp hF2 hcE hO9 hh9 hS9 hSS hALL f37 z37 HAPP HK0 hh0 hhd k1 k2 hc2 a37
          go_wp2_with fail
          go_roundg (nr - (i + 1))
          case measure => omega
          case rel => exact ⟨i + 1, by omega, by go_num, ⟨HFIN.out.1⟩, ⟨HFIN.out.2.1⟩, ⟨HFIN.out.2.2⟩⟩
    · have hkb1 : (x.k == 1) = false := by simpa using hk1
      have HK1 := Aside0.mk hk1
      clear hk1
      by_cases hk2 : x.k = 2
      · have HK := Aside0.mk hk2
        rw [hk2] at b0
        clear hk2 hkb1
        by_cases hs0 : (newK c rs i).st = 0
        · have HST : Aside0 (newK c rs (i + 1) = { newK c rs i with st := 1 }) := ⟨by rw [newK_succ c rs i HIL.out, ← HX.out]; unfold recF; rw [if_neg (by rw [HK.out]; decide), if_pos HK.out, if_pos hs0]⟩
          rw [hs0] at bst
          have z47 := HQ2.out.fr 47
          have HNS : Aside0 (∀ w5, w5 = w2.setCell ⟨gR, 47, none⟩ (.int .i64 1) → (∃ F cv ok, RfP w5 gR F c h (newK c rs (i + 1)) cv ok ∧ ∀ j, F j → gR ≤ j) ∧ Below w.heap.size w w5 ∧ w5.heap[gC]? = some (.cells ([.slice h.A1 N h.c1, .int .i64 c.job.parts, .slice h.A2 n2 h.c2, .slice h.A3 n3 h.c3, .slice h.A4 n4 h.c4, .int .i64 c.job.chunk, .int .i64 c.job.window, .int .i64 c.job.fuel, .slice h.A5 n5 h.c5, .int .i64 c.workers, .int .i64 c.tries, .int .i64 c.timeout] : List Value).toArray 28 (0, 0))) := ⟨fun w5 h5 => by
            have hp := HQ2.out.put 47 (.int .i64 1) { newK c rs i with st := 1 } rfl rfl (fun _ => ⟨rfl, rfl, rfl⟩) HQ2.out.rd
            have hc : Ch w2 w5 F := by rw [h5]; exact HQ2.out.chR 47 _
            rw [← h5, ← HST.out] at hp
            exact ⟨⟨F, cv, ok, hp, HFF.out⟩, Below.ch HB2.out hc HB2.out.size (fun j hj => Nat.le_trans HGR3.out.2 (HFF.out j hj)), hc.blk HC2.out (fun hh => by have := HFF.out _ hh; have := HGR3.out.1; omega)⟩⟩
          clear hs0
          go_wp2_with fail
          go_roundg (nr - (i + 1))
          case measure => omega
          case rel => exact ⟨i + 1, by omega, by go_num, ⟨(HNS.out _ rfl).1⟩, ⟨(HNS.out _ rfl).2.1⟩, ⟨(HNS.out _ rfl).2.2⟩⟩
        · have hsb : ((newK c rs i).st == 0) = false := by simpa using hs0
          have HS0 := Aside0.mk hs0
          have HST : Aside0 (newK c rs (i + 1) = newK c rs i) := ⟨by rw [newK_succ c rs i HIL.out, ← HX.out]; unfold recF; rw [if_neg (by rw [HK.out]; decide), if_pos HK.out, if_neg HS0.out]⟩
          have HNS : Aside0 (∀ w', HeldN w2 w' → (∃ F cv ok, RfP w' gR F c h (newK c rs (i + 1)) cv ok ∧ ∀ j, F j → gR ≤ j) ∧ Below w.heap.size w w' ∧ w'.heap[gC]? = some (.cells ([.slice h.A1 N h.c1, .int .i64 c.job.parts, .slice h.A2 n2 h.c2, .slice h.A3 n3 h.c3, .slice h.A4 n4 h.c4, .int .i64 c.job.chunk, .int .i64 c.job.window, .int .i64 c.job.fuel, .slice h.A5 n5 h.c5, .int .i64 c.workers, .int .i64 c.tries, .int .i64 c.timeout] : List Value).toArray 28 (0, 0))) := ⟨fun w' hw => ⟨⟨F, cv, ok, by rw [HST.out]; exact HQ2.out.below hw, HFF.out⟩, below_then HB2.out HB2.out.size hw, (hw.block gC (blk_lt' HC2.out)).trans HC2.out⟩⟩
          go_wp2_with fail
          go_roundg (nr - (i + 1))
          case measure => omega
          case rel => exact ⟨i + 1, by omega, by go_num, ⟨(HNS.out _ (Below.refl _ _)).1⟩, ⟨(HNS.out _ (Below.refl _ _)).2.1⟩, ⟨(HNS.out _ (Below.refl _ _)).2.2⟩⟩
      · have hkb2 : (x.k == 2) = false := by simpa using hk2
        have HK2 := Aside0.mk hk2
        clear hk2
        by_cases hk3 : x.k = 3
        · have HK := Aside0.mk hk3
          rw [hk3] at b0
          clear hk3 hkb1 hkb2
          by_cases hs0 : (newK c rs i).st = 0
          · have HST : Aside0 (newK c rs (i + 1) = endS (newK c rs i) 2 x.r) := ⟨by rw [newK_succ c rs i HIL.out, ← HX.out]; unfold recF; rw [if_neg (by rw [HK.out]; decide), if_neg (by rw [HK.out]; decide), if_pos HK.out, if_pos hs0]⟩
            rw [hs0] at bst
            have z47 := HQ2.out.fr 47
            have z48 := HQ2.out.fr 48
            have y48 := HQ2.out.c_why
            have d4 : w2.drew.cell? ⟨g, 4, none⟩ = some (.int .i64 x.r) := b4
            have HNS : Aside0 (∀ w5, w5 = ((w2.setCell ⟨gR, 47, none⟩ (.int .i64 2)).setCell ⟨gR, 48, none⟩ (.int .i64 x.r)).drew → (∃ F cv ok, RfP w5 gR F c h (newK c rs (i + 1)) cv ok ∧ ∀ j, F j → gR ≤ j) ∧ Below w.heap.size w w5 ∧ w5.heap[gC]? = some (.cells ([.slice h.A1 N h.c1, .int .i64 c.job.parts, .slice h.A2 n2 h.c2, .slice h.A3 n3 h.c3, .slice h.A4 n4 h.c4, .int .i64 c.job.chunk, .int .i64 c.job.window, .int .i64 c.job.fuel, .slice h.A5 n5 h.c5, .int .i64 c.workers, .int .i64 c.tries, .int .i64 c.timeout] : List Value).toArray 28 (0, 0))) := ⟨fun w5 h5 => by
              have hp := ((HQ2.out.put 47 (.int .i64 2) { newK c rs i with st := 2 } rfl rfl (fun _ => ⟨rfl, rfl, rfl⟩) HQ2.out.rd).put 48 (.int .i64 x.r) (endS (newK c rs i) 2 x.r) rfl rfl (fun _ => ⟨rfl, rfl, rfl⟩) HQ2.out.rd).below (below_drew _)
              have hc : Ch w2 w5 F := by rw [h5]; exact (((Ch.refl w2 F).setCell _ _ HQ2.out.fR).setCell _ _ HQ2.out.fR).trans (Ch.of_below (S := F) (below_drew _)) (fun _ _ h => h)
              rw [← h5, ← HST.out] at hp
              exact ⟨⟨F, cv, ok, hp, HFF.out⟩, Below.ch HB2.out hc HB2.out.size (fun j hj => Nat.le_trans HGR3.out.2 (HFF.out j hj)), hc.blk HC2.out (fun hh => by have := HFF.out _ hh; have := HGR3.out.1; omega)⟩⟩
            clear hs0
            go_upto_region 18 with (fail)
            go_region
            all_goals
              go_wp2_with fail
              go_roundg (nr - (i + 1))
              case measure => omega
              case rel => exact ⟨i + 1, by omega, by go_num, ⟨(HNS.out _ rfl).1⟩, ⟨(HNS.out _ rfl).2.1⟩, ⟨(HNS.out _ rfl).2.2⟩⟩
          · have hsb : ((newK c rs i).st == 0) = false := by simpa using hs0
            have HS0 := Aside0.mk hs0
            have HST : Aside0 (newK c rs (i + 1) = newK c rs i) := ⟨by rw [newK_succ c rs i HIL.out, ← HX.out]; unfold recF; rw [if_neg (by rw [HK.out]; decide), if_neg (by rw [HK.out]; decide), if_pos HK.out, if_neg HS0.out]⟩
            have HNS : Aside0 (∀ w', HeldN w2 w' → (∃ F cv ok, RfP w' gR F c h (newK c rs (i + 1)) cv ok ∧ ∀ j, F j → gR ≤ j) ∧ Below w.heap.size w w' ∧ w'.heap[gC]? = some (.cells ([.slice h.A1 N h.c1, .int .i64 c.job.parts, .slice h.A2 n2 h.c2, .slice h.A3 n3 h.c3, .slice h.A4 n4 h.c4, .int .i64 c.job.chunk, .int .i64 c.job.window, .int .i64 c.job.fuel, .slice h.A5 n5 h.c5, .int .i64 c.workers, .int .i64 c.tries, .int .i64 c.timeout] : List Value).toArray 28 (0, 0))) := ⟨fun w' hw => ⟨⟨F, cv, ok, by rw [HST.out]; exact HQ2.out.below hw, HFF.out⟩, below_then HB2.out HB2.out.size hw, (hw.block gC (blk_lt' HC2.out)).trans HC2.out⟩⟩
            go_wp2_with fail
            go_roundg (nr - (i + 1))
            case measure => omega
            case rel => exact ⟨i + 1, by omega, by go_num, ⟨(HNS.out _ (Below.refl _ _)).1⟩, ⟨(HNS.out _ (Below.refl _ _)).2.1⟩, ⟨(HNS.out _ (Below.refl _ _)).2.2⟩⟩
        · have hkb3 : (x.k == 3) = false := by simpa using hk3
          have HK3 := Aside0.mk hk3
          clear hk3
          have HST : Aside0 (newK c rs (i + 1) = newK c rs i) := ⟨by rw [newK_succ c rs i HIL.out, ← HX.out]; unfold recF; rw [if_neg HK1.out, if_neg HK2.out, if_neg HK3.out]⟩
          have HNS : Aside0 (∀ w', HeldN w2 w' → (∃ F cv ok, RfP w' gR F c h (newK c rs (i + 1)) cv ok ∧ ∀ j, F j → gR ≤ j) ∧ Below w.heap.size w w' ∧ w'.heap[gC]? = some (.cells ([.slice h.A1 N h.c1, .int .i64 c.job.parts, .slice h.A2 n2 h.c2, .slice h.A3 n3 h.c3, .slice h.A4 n4 h.c4, .int .i64 c.job.chunk, .int .i64 c.job.window, .int .i64 c.job.fuel, .slice h.A5 n5 h.c5, .int .i64 c.workers, .int .i64 c.tries, .int .i64 c.timeout] : List Value).toArray 28 (0, 0))) := ⟨fun w' hw => ⟨⟨F, cv, ok, by rw [HST.out]; exact HQ2.out.below hw, HFF.out⟩, below_then HB2.out HB2.out.size hw, (hw.block gC (blk_lt' HC2.out)).trans HC2.out⟩⟩
          go_wp2_with fail
          go_roundg (nr - (i + 1))
          case measure => omega
          case rel => exact ⟨i + 1, by omega, by go_num, ⟨(HNS.out _ (Below.refl _ _)).1⟩, ⟨(HNS.out _ (Below.refl _ _)).2.1⟩, ⟨(HNS.out _ (Below.refl _ _)).2.2⟩⟩
end Go.Proofs.Ytbnhhlahbhjogaa.K
namespace Go.Proofs.Ytbnhhlahbhjogaa.K
open Go.RowKit Go.Proofs.YtbnhhlahbhjogaaW.PrintWords Go.Proofs.YtbnhhlahbhjogaaW.PrintLast Go.Proofs.YtbnhhlahbhjogaaW.PrintMore Go.Proofs.Ytbnhhlahbhjogaa.U Go.Proofs.Ytbnhhlahbhjogaa.T

theorem Rest.held {P : Program} {md : Region.Mode} {ops : Array Oper} {Q : Exit → Act → World → Prop} {S' : World → Prop} {i : Nat} {oi : Oper} {v : Value} {n : Nat} {l : Array Bool} {a : Act} {w : World} (hi : ops[i]? = some oi) (hsel : Region.noSelect ops = true) (hf : Region.free md ops l i = true) (hr : (Region.ready md ops l).contains i = true)
    (hQ : ∀ c a w, Q (.panic c) (a.put oi.dst v) w → Q (.panic c) a w) (hs : S' w) (hy : YieldsIf P ops S' oi v a)
    (h : Rest P md ops Q (fun _ => S') n (l.setIfInBounds i true) (a.put oi.dst v) w) : Rest P md ops Q (fun _ => S') (n + 1) l a w :=
  Rest.first (T := S') (C := fun _ => True) hi hsel hQ (fun _ _ _ _ _ _ _ => trivial) (fun _ _ _ h => h) (fun _ _ => Iff.rfl) n l a w (Region.free_spec hi hf) (by simpa using hr) hy trivial hs h
section
variable {w w' : World} {gR : Nat} {F S : Nat → Prop} {c : CfgD} {h : CfH} {m : MaS} {cv : Nat → Value} {ok : Nat → Prop}
def readyR (c : CfgD) (m : MaS) (x : MsgD) : MaS × List RecD := if 0 ≤ x.p ∧ x.p < c.job.parts then wholeF c m x else (m, [])
/-- One record without rows, just made. -/
theorem rec_post (q : RfP w' gR F c h m cv ok) (hc : Ch w w' F) (k p s a r : Int) (gz : Nat) (hg : w'.heap[gz]? = some (.cells ([.int .i64 k, .int .i64 p, .int .i64 s, .int .i64 a, .int .i64 r, .slice none 0 0, .slice none 0 0] : List Value).toArray 90 (0, 0))) : RfPost w gR F c h m (.slice (some ⟨gz, 0, none⟩) 1 1) [⟨k, p, s, a, r, [], []⟩] w' := by
  refine ⟨F, some ⟨gz, 0, none⟩, 1, rfl, C_one hg ?_, ⟨_, _, q⟩, fun i hi => .inl hi, hc⟩
  exact kRec_mk (x := ⟨k, p, s, a, r, [], []⟩) (A1 := none) (A2 := none) (c1 := 0) (c2 := 0) ⟨C_zero _ _, C_zero _ _, Nat.le_refl _, Nat.le_refl _⟩
set_option maxHeartbeats 12800000 in
theorem rfReady (p : RfP w gR F c h m cv ok) (hwy : m.why = 0) (x : MsgD) (A1 A2 : Option Addr) (c1 c2 ls lp : Nat) :
    Calls Try.prog 81 #[.pointer (some ⟨gR, 0, none⟩), .agg #[.int .i64 x.k, .int .i64 x.s, .int .i64 x.a, .int .i64 x.p, .int .i64 x.q, .int .i64 x.n, .int .i64 x.e, .int .i64 x.r, .slice A1 ls c1, .slice A2 lp c2]] w fun e w' => ∃ v, e = .returned v ∧ RfPost w gR F c h (readyR c m x).1 v (readyR c m x).2 w' := by
  obtain ⟨g, hg⟩ : ∃ g, g = w.heap.size := ⟨_, rfl⟩
  obtain ⟨wA, hwA⟩ : ∃ wA, wA = w.alloc (.cells #[.int .i64 x.k, .int .i64 x.s, .int .i64 x.a, .int .i64 x.p, .int .i64 x.q, .int .i64 x.n, .int .i64 x.e, .int .i64 x.r, .slice A1 ls c1, .slice A2 lp c2] 45) := ⟨_, rfl⟩
  have hbA : Below w.heap.size w wA := by rw [hwA]; exact (Below.refl _ _).alloc (Nat.le_refl _) _
  have hgA : wA.heap[g]? = some (.cells ([.int .i64 x.k, .int .i64 x.s, .int .i64 x.a, .int .i64 x.p, .int .i64 x.q, .int .i64 x.n, .int .i64 x.e, .int .i64 x.r, .slice A1 ls c1, .slice A2 lp c2] : List Value).toArray 45 (0, 0)) := by rw [hwA, hg]; exact alloc_at w _
  have q := p.below hbA
  have hgne : g ≠ gR := by have := p.flt _ p.fR; omega
  obtain ⟨R, hR⟩ : ∃ R, R = readyR c m x := ⟨_, rfl⟩
  have HNO : Aside0 (∀ w', readyR c m x = (m, []) → HeldN wA w' → RfPost w gR F c h R.1 (.slice none 0 0) R.2 w') := ⟨fun w' h1 h2 => by
    rw [hR, h1]
    exact RfPost.same p (below_then hbA hbA.size h2)⟩
  obtain ⟨N, hN⟩ : ∃ N, N = c.job.splits.length := ⟨_, rfl⟩
  obtain ⟨nw, hnw⟩ : ∃ n, n = (winners m).length := ⟨_, rfl⟩
  have hnl : nw ≤ 1000000 := by
    have h1 := winners_len m
    have h2 := q.len
    have h3 := q.n6
    omega
  have HWIN : Aside0 (∀ w', HeldN wA w' → Calls Try.prog 31 #[.pointer (some ⟨gR, 0, none⟩)] w' fun e w'' => ∃ A cp, e = .returned (.slice A nw cp) ∧ HeldN wA w'') := ⟨fun w' hw => by
    refine (rfWinners (q.below hw)).mono ?_
    rintro e w'' ⟨v, rfl, hO, hb⟩
    obtain ⟨A, cp, rfl, _, _⟩ := hO.reads
    exact ⟨A, cp, by rw [hnw], hw.then_ hb⟩⟩
  have hum := Try.underlying45
  have hur := Try.underlying90
  have HQ := Aside0.mk q
  have HB := Aside0.mk hbA
  have HWA := Aside0.mk hwA
  have HG := Aside0.mk hg
  have HGA := Aside0.mk hgA
  have HGR := Aside0.mk hgne
  have HR := Aside0.mk hR
  have HN := Aside0.mk hN
  have HNW : Aside0 ((winners m).length < m.sp.length ↔ nw < N) := ⟨by rw [← hnw, hN, q.len]⟩
  have HP4 : Aside0 (1 ≤ c.job.parts ∧ c.job.parts ≤ 4) := ⟨q.may.job.parts⟩
  have HFLT := Aside0.mk p.flt
  have HWY := Aside0.mk hwy
  rw [← hR]
  clear hwy p q hwA hg hbA hgA hR hgne hN hnw
  go_enter Try.func81, Try.ntmps81
  go_upto_region 1 with (fail)
  rw [show w.alloc (.cells #[.int .i64 x.k, .int .i64 x.s, .int .i64 x.a, .int .i64 x.p, .int .i64 x.q, .int .i64 x.n, .int .i64 x.e, .int .i64 x.r, .slice A1 ls c1, .slice A2 lp c2] 45) = wA from HWA.out.symm, ← HG.out]
  by_cases hp0 : x.p < 0
  · have hp0' := decide_eq_true hp0
    have HE : Aside0 (readyR c m x = (m, [])) := ⟨by unfold readyR; rw [if_neg (by omega)]⟩
    have y3 : wA.cell? ⟨g, 3, none⟩ = some (.int .i64 x.p) := cell_of_blk HGA.out
    have f1 := HQ.out.c_parts
    go_upto_region 1 with (fail)
    go_quiet (fail)
    go_wp2_with fail
    go_ret
    exact ⟨_, rfl, HNO.out _ HE.out (pw_below_drewN (Below.refl _ _) _)⟩
  have hp0' := decide_eq_false hp0
  by_cases hp1 : c.job.parts ≤ x.p
  · have hp1' := decide_eq_true hp1
    have HE : Aside0 (readyR c m x = (m, [])) := ⟨by unfold readyR; rw [if_neg (by omega)]⟩
    have y3 : wA.cell? ⟨g, 3, none⟩ = some (.int .i64 x.p) := cell_of_blk HGA.out
    have f1 := HQ.out.c_parts
    go_upto_region 1 with (fail)
    go_quiet (fail)
    go_wp2_with fail
    go_ret
    exact ⟨_, rfl, HNO.out _ HE.out (pw_below_drewN (Below.refl _ _) _)⟩
  have hp1' := decide_eq_false hp1
  have HPP : Aside0 (0 ≤ x.p ∧ x.p < c.job.parts) := ⟨⟨by omega, by omega⟩⟩
  by_cases hnw : nw < N
  · have hnwI : (nw : Int) < N := by omega
    have hnw' : decide ((nw : Int) < N) = true := decide_eq_true hnwI
    have hnw'' : decide (nw < N) = true := decide_eq_true hnw
    have HE : Aside0 (readyR c m x = (m, [])) := ⟨by unfold readyR wholeF; rw [if_pos HPP.out, if_pos (HNW.out.2 hnw)]⟩
    clear hnw
    have HK0 : Aside0 (∀ w', HeldN wA w' → (w'.cell? ⟨g, 3, none⟩ = some (.int .i64 x.p) ∧ w'.cell? ⟨g, 7, none⟩ = some (.int .i64 x.r) ∧ w'.cell? ⟨gR, 1, none⟩ = some (.int .i64 c.job.parts) ∧ w'.cell? ⟨gR, 0, none⟩ = some (.slice h.A1 N h.c1))) := ⟨fun w' hw => by
      have hq := (hw.block g (blk_lt' HGA.out)).trans HGA.out
      have q := HQ.out.below hw
      exact ⟨cell_of_blk hq, cell_of_blk hq, q.c_parts, by rw [HN.out]; exact q.c_splits⟩⟩
    have hh0 : HeldN wA wA := Below.refl _ _
    have hhd : ∀ w', HeldN wA w' → HeldN wA w'.drew := fun w' h => h.then_ (below_drew w')
    go_upto_region 1 with (fail)
    refine Rest.begin (S := fun _ w' => (w'.cell? ⟨g, 3, none⟩ = some (.int .i64 x.p) ∧ w'.cell? ⟨g, 7, none⟩ = some (.int .i64 x.r) ∧ w'.cell? ⟨gR, 1, none⟩ = some (.int .i64 c.job.parts) ∧ w'.cell? ⟨gR, 0, none⟩ = some (.slice h.A1 N h.c1))) (by kernel_rfl) ?_
    have hs := HK0.out wA.drew (hhd _ hh0)
    refine Rest.held (i := 0) (v := ?_) rfl (by kernel_rfl) (by kernel_rfl) (by kernel_rfl) (fun _ _ _ h => h) hs (Or.inl ⟨by kernel_rfl, ?_⟩) ?_
    rotate_left 1
    · (intro w hSw; (try dsimp only at hSw); go_simp; try with_reducible rfl)
    simp only [List.getElem_toArray, List.getElem_cons_succ, List.getElem_cons_zero, Act.put, List.setIfInBounds_toArray, List.set_cons_zero, List.set_cons_succ]
    refine Rest.held (i := 1) (v := ?_) rfl (by kernel_rfl) (by kernel_rfl) (by kernel_rfl) (fun _ _ _ h => h) hs (Or.inl ⟨by kernel_rfl, ?_⟩) ?_
    rotate_left 1
    · (intro w hSw; (try dsimp only at hSw); go_simp; try with_reducible rfl)
    simp only [List.getElem_toArray, List.getElem_cons_succ, List.getElem_cons_zero, Act.put, List.setIfInBounds_toArray, List.set_cons_zero, List.set_cons_succ]
    refine Rest.held (i := 2) (v := ?_) rfl (by kernel_rfl) (by kernel_rfl) (by kernel_rfl) (fun _ _ _ h => h) hs (Or.inl ⟨by kernel_rfl, ?_⟩) ?_
    rotate_left 1
    · (intro w hSw; (try dsimp only at hSw); go_simp; try with_reducible rfl)
    simp only [List.getElem_toArray, List.getElem_cons_succ, List.getElem_cons_zero, Act.put, List.setIfInBounds_toArray, List.set_cons_zero, List.set_cons_succ]
    refine Rest.held (i := 3) (v := ?_) rfl (by kernel_rfl) (by kernel_rfl) (by kernel_rfl) (fun _ _ _ h => h) hs (Or.inl ⟨by kernel_rfl, ?_⟩) ?_
    rotate_left 1
    · (intro w hSw; (try dsimp only at hSw); go_simp; try with_reducible rfl)
    simp only [List.getElem_toArray, List.getElem_cons_succ, List.getElem_cons_zero, Act.put, List.setIfInBounds_toArray, List.set_cons_zero, List.set_cons_succ]
    refine Rest.held (i := 4) (v := ?_) rfl (by kernel_rfl) (by kernel_rfl) (by kernel_rfl) (fun _ _ _ h => h) hs (Or.inl ⟨by kernel_rfl, ?_⟩) ?_
    rotate_left 1
    · (intro w hSw; (try dsimp only at hSw); go_simp; try with_reducible rfl)
    simp only [List.getElem_toArray, List.getElem_cons_succ, List.getElem_cons_zero, Act.put, List.setIfInBounds_toArray, List.set_cons_zero, List.set_cons_succ]
    refine Rest.held (i := 5) (v := ?_) rfl (by kernel_rfl) (by kernel_rfl) (by kernel_rfl) (fun _ _ _ h => h) hs (Or.inl ⟨by kernel_rfl, ?_⟩) ?_
    rotate_left 1
    · (intro w hSw; (try dsimp only at hSw); go_simp; try with_reducible rfl)
    simp only [List.getElem_toArray, List.getElem_cons_succ, List.getElem_cons_zero, Act.put, List.setIfInBounds_toArray, List.set_cons_zero, List.set_cons_succ]
    refine Rest.held (i := 6) (v := ?_) rfl (by kernel_rfl) (by kernel_rfl) (by kernel_rfl) (fun _ _ _ h => h) hs (Or.inl ⟨by kernel_rfl, ?_⟩) ?_
    rotate_left 1
    · (intro w hSw; (try dsimp only at hSw); go_simp; try with_reducible rfl)
    simp only [List.getElem_toArray, List.getElem_cons_succ, List.getElem_cons_zero, Act.put, List.setIfInBounds_toArray, List.set_cons_zero, List.set_cons_succ]
    refine Rest.held (i := 7) (v := ?_) rfl (by kernel_rfl) (by kernel_rfl) (by kernel_rfl) (fun _ _ _ h => h) hs (Or.inl ⟨by kernel_rfl, ?_⟩) ?_
    rotate_left 1
    · (intro w hSw; (try dsimp only at hSw); go_simp; try with_reducible rfl)
    simp only [List.getElem_toArray, List.getElem_cons_succ, List.getElem_cons_zero, Act.put, List.setIfInBounds_toArray, List.set_cons_zero, List.set_cons_succ]
    refine Rest.held (i := 8) (v := ?_) rfl (by kernel_rfl) (by kernel_rfl) (by kernel_rfl) (fun _ _ _ h => h) hs (Or.inl ⟨by kernel_rfl, ?_⟩) ?_
    rotate_left 1
    · (intro w hSw; (try dsimp only at hSw); go_simp; try with_reducible rfl)
    simp only [List.getElem_toArray, List.getElem_cons_succ, List.getElem_cons_zero, Act.put, List.setIfInBounds_toArray, List.set_cons_zero, List.set_cons_succ]
    refine Rest.held (i := 9) (v := ?_) rfl (by kernel_rfl) (by kernel_rfl) (by kernel_rfl) (fun _ _ _ h => h) hs (Or.inl ⟨by kernel_rfl, ?_⟩) ?_
    rotate_left 1
    · (intro w hSw; (try dsimp only at hSw); go_simp; try with_reducible rfl)
    simp only [List.getElem_toArray, List.getElem_cons_succ, List.getElem_cons_zero, Act.put, List.setIfInBounds_toArray, List.set_cons_zero, List.set_cons_succ]
    refine Rest.held (i := 10) (v := ?_) rfl (by kernel_rfl) (by kernel_rfl) (by kernel_rfl) (fun _ _ _ h => h) hs (Or.inl ⟨by kernel_rfl, ?_⟩) ?_
    rotate_left 1
    · (intro w hSw; (try dsimp only at hSw); go_simp; try with_reducible rfl)
    simp only [List.getElem_toArray, List.getElem_cons_succ, List.getElem_cons_zero, Act.put, List.setIfInBounds_toArray, List.set_cons_zero, List.set_cons_succ]
    refine Rest.held (i := 11) (v := ?_) rfl (by kernel_rfl) (by kernel_rfl) (by kernel_rfl) (fun _ _ _ h => h) hs (Or.inl ⟨by kernel_rfl, ?_⟩) ?_
    rotate_left 1
    · (intro w hSw; (try dsimp only at hSw); go_simp; try with_reducible rfl)
    simp only [List.getElem_toArray, List.getElem_cons_succ, List.getElem_cons_zero, Act.put, List.setIfInBounds_toArray, List.set_cons_zero, List.set_cons_succ]
    refine Rest.held (i := 12) (v := ?_) rfl (by kernel_rfl) (by kernel_rfl) (by kernel_rfl) (fun _ _ _ h => h) hs (Or.inl ⟨by kernel_rfl, ?_⟩) ?_
    rotate_left 1
    · (intro w hSw; (try dsimp only at hSw); go_simp; try with_reducible rfl)
    simp only [List.getElem_toArray, List.getElem_cons_succ, List.getElem_cons_zero, Act.put, List.setIfInBounds_toArray, List.set_cons_zero, List.set_cons_succ]
    refine Rest.held (i := 13) (v := ?_) rfl (by kernel_rfl) (by kernel_rfl) (by kernel_rfl) (fun _ _ _ h => h) hs (Or.inl ⟨by kernel_rfl, ?_⟩) ?_
    rotate_left 1
    · (intro w hSw; (try dsimp only at hSw); go_simp; try with_reducible rfl)
    simp only [List.getElem_toArray, List.getElem_cons_succ, List.getElem_cons_zero, Act.put, List.setIfInBounds_toArray, List.set_cons_zero, List.set_cons_succ]
    refine Rest.held (i := 14) (v := ?_) rfl (by kernel_rfl) (by kernel_rfl) (by kernel_rfl) (fun _ _ _ h => h) hs (Or.inl ⟨by kernel_rfl, ?_⟩) ?_
    rotate_left 1
    · (intro w hSw; (try dsimp only at hSw); go_simp; try with_reducible rfl)
    simp only [List.getElem_toArray, List.getElem_cons_succ, List.getElem_cons_zero, Act.put, List.setIfInBounds_toArray, List.set_cons_zero, List.set_cons_succ]
    refine Rest.held (i := 15) (v := ?_) rfl (by kernel_rfl) (by kernel_rfl) (by kernel_rfl) (fun _ _ _ h => h) hs (Or.inl ⟨by kernel_rfl, ?_⟩) ?_
    rotate_left 1
    · (intro w hSw; (try dsimp only at hSw); go_simp; try with_reducible rfl)
    simp only [List.getElem_toArray, List.getElem_cons_succ, List.getElem_cons_zero, Act.put, List.setIfInBounds_toArray, List.set_cons_zero, List.set_cons_succ]
    refine Rest.held (i := 18) (v := ?_) rfl (by kernel_rfl) (by kernel_rfl) (by kernel_rfl) (fun _ _ _ h => h) hs (Or.inl ⟨by kernel_rfl, ?_⟩) ?_
    rotate_left 1
    · (intro w hSw; (try dsimp only at hSw); go_simp; try with_reducible rfl)
    simp only [List.getElem_toArray, List.getElem_cons_succ, List.getElem_cons_zero, Act.put, List.setIfInBounds_toArray, List.set_cons_zero, List.set_cons_succ]
    refine Rest.held (i := 19) (v := ?_) rfl (by kernel_rfl) (by kernel_rfl) (by kernel_rfl) (fun _ _ _ h => h) hs (Or.inl ⟨by kernel_rfl, ?_⟩) ?_
    rotate_left 1
    · (intro w hSw; (try dsimp only at hSw); go_simp; try with_reducible rfl)
    simp only [List.getElem_toArray, List.getElem_cons_succ, List.getElem_cons_zero, Act.put, List.setIfInBounds_toArray, List.set_cons_zero, List.set_cons_succ]
    refine Rest.held (i := 20) (v := ?_) rfl (by kernel_rfl) (by kernel_rfl) (by kernel_rfl) (fun _ _ _ h => h) hs (Or.inl ⟨by kernel_rfl, ?_⟩) ?_
    rotate_left 1
    · (intro w hSw; (try dsimp only at hSw); go_simp; try with_reducible rfl)
    simp only [List.getElem_toArray, List.getElem_cons_succ, List.getElem_cons_zero, Act.put, List.setIfInBounds_toArray, List.set_cons_zero, List.set_cons_succ]
    refine Rest.held (i := 21) (v := ?_) rfl (by kernel_rfl) (by kernel_rfl) (by kernel_rfl) (fun _ _ _ h => h) hs (Or.inl ⟨by kernel_rfl, ?_⟩) ?_
    rotate_left 1
    · (intro w hSw; (try dsimp only at hSw); go_simp; try with_reducible rfl)
    simp only [List.getElem_toArray, List.getElem_cons_succ, List.getElem_cons_zero, Act.put, List.setIfInBounds_toArray, List.set_cons_zero, List.set_cons_succ]
    refine Rest.held (i := 22) (v := ?_) rfl (by kernel_rfl) (by kernel_rfl) (by kernel_rfl) (fun _ _ _ h => h) hs (Or.inl ⟨by kernel_rfl, ?_⟩) ?_
    rotate_left 1
    · (intro w hSw; (try dsimp only at hSw); go_simp; try with_reducible rfl)
    simp only [List.getElem_toArray, List.getElem_cons_succ, List.getElem_cons_zero, Act.put, List.setIfInBounds_toArray, List.set_cons_zero, List.set_cons_succ]
    refine Rest.held (i := 23) (v := ?_) rfl (by kernel_rfl) (by kernel_rfl) (by kernel_rfl) (fun _ _ _ h => h) hs (Or.inl ⟨by kernel_rfl, ?_⟩) ?_
    rotate_left 1
    · (intro w hSw; (try dsimp only at hSw); go_simp; try with_reducible rfl)
    simp only [List.getElem_toArray, List.getElem_cons_succ, List.getElem_cons_zero, Act.put, List.setIfInBounds_toArray, List.set_cons_zero, List.set_cons_succ]
    refine Rest.held (i := 24) (v := ?_) rfl (by kernel_rfl) (by kernel_rfl) (by kernel_rfl) (fun _ _ _ h => h) hs (Or.inl ⟨by kernel_rfl, ?_⟩) ?_
    rotate_left 1
    · (intro w hSw; (try dsimp only at hSw); go_simp; try with_reducible rfl)
    simp only [List.getElem_toArray, List.getElem_cons_succ, List.getElem_cons_zero, Act.put, List.setIfInBounds_toArray, List.set_cons_zero, List.set_cons_succ]
    refine Rest.one (i := 16) (by kernel_rfl) rfl ?_
    intro K hK
    rw [if_pos (by kernel_rfl)]
    go_simp
    go_at_call 31
    ((with_reducible refine (HWIN.out _ (hhd _ hh0)).mono ?_); rintro e wq ⟨Aw, cw, rfl, hHq⟩)
    replace hs := HK0.out wq hHq
    refine hK.out _ _ hs ?_
    clear hK K
    refine Rest.held (i := 17) (v := ?_) rfl (by kernel_rfl) (by kernel_rfl) (by kernel_rfl) (fun _ _ _ h => h) hs (Or.inl ⟨by kernel_rfl, ?_⟩) ?_
    rotate_left 1
    · (intro w hSw; (try dsimp only at hSw); go_simp; try with_reducible rfl)
    simp only [List.getElem_toArray, List.getElem_cons_succ, List.getElem_cons_zero, Act.put, List.setIfInBounds_toArray, List.set_cons_zero, List.set_cons_succ]
    refine Rest.held (i := 25) (v := ?_) rfl (by kernel_rfl) (by kernel_rfl) (by kernel_rfl) (fun _ _ _ h => h) hs (Or.inl ⟨by kernel_rfl, ?_⟩) ?_
    rotate_left 1
    · (intro w hSw; (try dsimp only at hSw); go_simp; try with_reducible rfl)
    simp only [List.getElem_toArray, List.getElem_cons_succ, List.getElem_cons_zero, Act.put, List.setIfInBounds_toArray, List.set_cons_zero, List.set_cons_succ]
    refine Rest.held (i := 26) (v := ?_) rfl (by kernel_rfl) (by kernel_rfl) (by kernel_rfl) (fun _ _ _ h => h) hs (Or.inl ⟨by kernel_rfl, ?_⟩) ?_
    rotate_left 1
    · (intro w hSw; (try dsimp only at hSw); go_simp; try with_reducible rfl)
    simp only [List.getElem_toArray, List.getElem_cons_succ, List.getElem_cons_zero, Act.put, List.setIfInBounds_toArray, List.set_cons_zero, List.set_cons_succ]
    refine Rest.held (i := 27) (v := ?_) rfl (by kernel_rfl) (by kernel_rfl) (by kernel_rfl) (fun _ _ _ h => h) hs (Or.inl ⟨by kernel_rfl, ?_⟩) ?_
    rotate_left 1
    · (intro w hSw; (try dsimp only at hSw); go_simp; try with_reducible rfl)
    simp only [List.getElem_toArray, List.getElem_cons_succ, List.getElem_cons_zero, Act.put, List.setIfInBounds_toArray, List.set_cons_zero, List.set_cons_succ]
    refine Rest.held (i := 28) (v := undef) rfl (by kernel_rfl) (by kernel_rfl) (by kernel_rfl) (fun _ _ _ h => h) hs (Or.inr ⟨by kernel_rfl, rfl⟩) ?_
    simp only [List.getElem_toArray, List.getElem_cons_succ, List.getElem_cons_zero, Act.put, List.setIfInBounds_toArray, List.set_cons_zero, List.set_cons_succ]
    refine Rest.held (i := 29) (v := undef) rfl (by kernel_rfl) (by kernel_rfl) (by kernel_rfl) (fun _ _ _ h => h) hs (Or.inr ⟨by kernel_rfl, rfl⟩) ?_
    simp only [List.getElem_toArray, List.getElem_cons_succ, List.getElem_cons_zero, Act.put, List.setIfInBounds_toArray, List.set_cons_zero, List.set_cons_succ]
    refine Rest.held (i := 30) (v := undef) rfl (by kernel_rfl) (by kernel_rfl) (by kernel_rfl) (fun _ _ _ h => h) hs (Or.inr ⟨by kernel_rfl, rfl⟩) ?_
    simp only [List.getElem_toArray, List.getElem_cons_succ, List.getElem_cons_zero, Act.put, List.setIfInBounds_toArray, List.set_cons_zero, List.set_cons_succ]
    refine Rest.held (i := 31) (v := ?_) rfl (by kernel_rfl) (by kernel_rfl) (by kernel_rfl) (fun _ _ _ h => h) hs (Or.inl ⟨by kernel_rfl, ?_⟩) ?_
    rotate_left 1
    · (intro w hSw; (try dsimp only at hSw); go_simp; try with_reducible rfl)
    simp only [List.getElem_toArray, List.getElem_cons_succ, List.getElem_cons_zero, Act.put, List.setIfInBounds_toArray, List.set_cons_zero, List.set_cons_succ]
    refine Rest.held (i := 32) (v := ?_) rfl (by kernel_rfl) (by kernel_rfl) (by kernel_rfl) (fun _ _ _ h => h) hs (Or.inl ⟨by kernel_rfl, ?_⟩) ?_
    rotate_left 1
    · (intro w hSw; (try dsimp only at hSw); go_simp; try with_reducible rfl)
    simp only [List.getElem_toArray, List.getElem_cons_succ, List.getElem_cons_zero, Act.put, List.setIfInBounds_toArray, List.set_cons_zero, List.set_cons_succ]
    refine Rest.held (i := 33) (v := undef) rfl (by kernel_rfl) (by kernel_rfl) (by kernel_rfl) (fun _ _ _ h => h) hs (Or.inr ⟨by kernel_rfl, rfl⟩) ?_
    simp only [List.getElem_toArray, List.getElem_cons_succ, List.getElem_cons_zero, Act.put, List.setIfInBounds_toArray, List.set_cons_zero, List.set_cons_succ]
    refine Rest.held (i := 34) (v := undef) rfl (by kernel_rfl) (by kernel_rfl) (by kernel_rfl) (fun _ _ _ h => h) hs (Or.inr ⟨by kernel_rfl, rfl⟩) ?_
    simp only [List.getElem_toArray, List.getElem_cons_succ, List.getElem_cons_zero, Act.put, List.setIfInBounds_toArray, List.set_cons_zero, List.set_cons_succ]
    refine Rest.held (i := 35) (v := undef) rfl (by kernel_rfl) (by kernel_rfl) (by kernel_rfl) (fun _ _ _ h => h) hs (Or.inr ⟨by kernel_rfl, rfl⟩) ?_
    simp only [List.getElem_toArray, List.getElem_cons_succ, List.getElem_cons_zero, Act.put, List.setIfInBounds_toArray, List.set_cons_zero, List.set_cons_succ]
    refine Rest.held (i := 36) (v := ?_) rfl (by kernel_rfl) (by kernel_rfl) (by kernel_rfl) (fun _ _ _ h => h) hs (Or.inl ⟨by kernel_rfl, ?_⟩) ?_
    rotate_left 1
    · (intro w hSw; (try dsimp only at hSw); go_simp; try with_reducible rfl)
    simp only [List.getElem_toArray, List.getElem_cons_succ, List.getElem_cons_zero, Act.put, List.setIfInBounds_toArray, List.set_cons_zero, List.set_cons_succ]
    refine Rest.done (by kernel_rfl) ?_ _
    have HHQ := Aside0.mk hHq
    clear hHq HK0 hh0 hhd HWIN hs
    go_wp2_with fail
    go_ret
    exact ⟨_, rfl, HNO.out _ HE.out HHQ.out⟩
  have hnwI : ¬ (nw : Int) < N := by omega
  have hnw' : decide ((nw : Int) < N) = false := decide_eq_false hnwI
  have hnw'' : decide (nw < N) = false := decide_eq_false hnw
  have HWH : Aside0 (readyR c m x = if 1 ≤ x.r ∧ x.r ≤ 6 then (endS m 2 x.r, [⟨3, x.p, 0, 1, x.r, [], []⟩]) else if x.r ≠ 0 then (m, [])
    else if false ∈ (rdSet m x.p.toNat).rd.take c.job.parts.toNat then (rdSet m x.p.toNat, []) else (endS (rdSet m x.p.toNat) 1 0, [⟨2, 0, 0, 0, 0, [], []⟩])) := ⟨by unfold readyR wholeF; rw [if_pos HPP.out, if_neg (fun hh => hnw (HNW.out.1 hh))]⟩
  clear hnw
  by_cases hr0 : x.r < 0
  · have hr0' := decide_eq_true hr0
    have HE : Aside0 (readyR c m x = (m, [])) := ⟨by rw [HWH.out, if_neg (by omega), if_pos (by omega)]⟩
    have HK0 : Aside0 (∀ w', HeldN wA w' → (w'.cell? ⟨g, 3, none⟩ = some (.int .i64 x.p) ∧ w'.cell? ⟨g, 7, none⟩ = some (.int .i64 x.r) ∧ w'.cell? ⟨gR, 1, none⟩ = some (.int .i64 c.job.parts) ∧ w'.cell? ⟨gR, 0, none⟩ = some (.slice h.A1 N h.c1))) := ⟨fun w' hw => by
      have hq := (hw.block g (blk_lt' HGA.out)).trans HGA.out
      have q := HQ.out.below hw
      exact ⟨cell_of_blk hq, cell_of_blk hq, q.c_parts, by rw [HN.out]; exact q.c_splits⟩⟩
    have hh0 : HeldN wA wA := Below.refl _ _
    have hhd : ∀ w', HeldN wA w' → HeldN wA w'.drew := fun w' h => h.then_ (below_drew w')
    go_upto_region 1 with (fail)
    refine Rest.begin (S := fun _ w' => (w'.cell? ⟨g, 3, none⟩ = some (.int .i64 x.p) ∧ w'.cell? ⟨g, 7, none⟩ = some (.int .i64 x.r) ∧ w'.cell? ⟨gR, 1, none⟩ = some (.int .i64 c.job.parts) ∧ w'.cell? ⟨gR, 0, none⟩ = some (.slice h.A1 N h.c1))) (by kernel_rfl) ?_
    have hs := HK0.out wA.drew (hhd _ hh0)
    refine Rest.held (i := 0) (v := ?_) rfl (by kernel_rfl) (by kernel_rfl) (by kernel_rfl) (fun _ _ _ h => h) hs (Or.inl ⟨by kernel_rfl, ?_⟩) ?_
    rotate_left 1
    · (intro w hSw; (try dsimp only at hSw); go_simp; try with_reducible rfl)
    simp only [List.getElem_toArray, List.getElem_cons_succ, List.getElem_cons_zero, Act.put, List.setIfInBounds_toArray, List.set_cons_zero, List.set_cons_succ]
    refine Rest.held (i := 1) (v := ?_) rfl (by kernel_rfl) (by kernel_rfl) (by kernel_rfl) (fun _ _ _ h => h) hs (Or.inl ⟨by kernel_rfl, ?_⟩) ?_
    rotate_left 1
    · (intro w hSw; (try dsimp only at hSw); go_simp; try with_reducible rfl)
    simp only [List.getElem_toArray, List.getElem_cons_succ, List.getElem_cons_zero, Act.put, List.setIfInBounds_toArray, List.set_cons_zero, List.set_cons_succ]
    refine Rest.held (i := 2) (v := ?_) rfl (by kernel_rfl) (by kernel_rfl) (by kernel_rfl) (fun _ _ _ h => h) hs (Or.inl ⟨by kernel_rfl, ?_⟩) ?_
    rotate_left 1
    · (intro w hSw; (try dsimp only at hSw); go_simp; try with_reducible rfl)
    simp only [List.getElem_toArray, List.getElem_cons_succ, List.getElem_cons_zero, Act.put, List.setIfInBounds_toArray, List.set_cons_zero, List.set_cons_succ]
    refine Rest.held (i := 3) (v := ?_) rfl (by kernel_rfl) (by kernel_rfl) (by kernel_rfl) (fun _ _ _ h => h) hs (Or.inl ⟨by kernel_rfl, ?_⟩) ?_
    rotate_left 1
    · (intro w hSw; (try dsimp only at hSw); go_simp; try with_reducible rfl)
    simp only [List.getElem_toArray, List.getElem_cons_succ, List.getElem_cons_zero, Act.put, List.setIfInBounds_toArray, List.set_cons_zero, List.set_cons_succ]
    refine Rest.held (i := 4) (v := ?_) rfl (by kernel_rfl) (by kernel_rfl) (by kernel_rfl) (fun _ _ _ h => h) hs (Or.inl ⟨by kernel_rfl, ?_⟩) ?_
    rotate_left 1
    · (intro w hSw; (try dsimp only at hSw); go_simp; try with_reducible rfl)
    simp only [List.getElem_toArray, List.getElem_cons_succ, List.getElem_cons_zero, Act.put, List.setIfInBounds_toArray, List.set_cons_zero, List.set_cons_succ]
    refine Rest.held (i := 5) (v := ?_) rfl (by kernel_rfl) (by kernel_rfl) (by kernel_rfl) (fun _ _ _ h => h) hs (Or.inl ⟨by kernel_rfl, ?_⟩) ?_
    rotate_left 1
    · (intro w hSw; (try dsimp only at hSw); go_simp; try with_reducible rfl)
    simp only [List.getElem_toArray, List.getElem_cons_succ, List.getElem_cons_zero, Act.put, List.setIfInBounds_toArray, List.set_cons_zero, List.set_cons_succ]
    refine Rest.held (i := 6) (v := ?_) rfl (by kernel_rfl) (by kernel_rfl) (by kernel_rfl) (fun _ _ _ h => h) hs (Or.inl ⟨by kernel_rfl, ?_⟩) ?_
    rotate_left 1
    · (intro w hSw; (try dsimp only at hSw); go_simp; try with_reducible rfl)
    simp only [List.getElem_toArray, List.getElem_cons_succ, List.getElem_cons_zero, Act.put, List.setIfInBounds_toArray, List.set_cons_zero, List.set_cons_succ]
    refine Rest.held (i := 7) (v := ?_) rfl (by kernel_rfl) (by kernel_rfl) (by kernel_rfl) (fun _ _ _ h => h) hs (Or.inl ⟨by kernel_rfl, ?_⟩) ?_
    rotate_left 1
    · (intro w hSw; (try dsimp only at hSw); go_simp; try with_reducible rfl)
    simp only [List.getElem_toArray, List.getElem_cons_succ, List.getElem_cons_zero, Act.put, List.setIfInBounds_toArray, List.set_cons_zero, List.set_cons_succ]
    refine Rest.held (i := 8) (v := ?_) rfl (by kernel_rfl) (by kernel_rfl) (by kernel_rfl) (fun _ _ _ h => h) hs (Or.inl ⟨by kernel_rfl, ?_⟩) ?_
    rotate_left 1
    · (intro w hSw; (try dsimp only at hSw); go_simp; try with_reducible rfl)
    simp only [List.getElem_toArray, List.getElem_cons_succ, List.getElem_cons_zero, Act.put, List.setIfInBounds_toArray, List.set_cons_zero, List.set_cons_succ]
    refine Rest.held (i := 9) (v := ?_) rfl (by kernel_rfl) (by kernel_rfl) (by kernel_rfl) (fun _ _ _ h => h) hs (Or.inl ⟨by kernel_rfl, ?_⟩) ?_
    rotate_left 1
    · (intro w hSw; (try dsimp only at hSw); go_simp; try with_reducible rfl)
    simp only [List.getElem_toArray, List.getElem_cons_succ, List.getElem_cons_zero, Act.put, List.setIfInBounds_toArray, List.set_cons_zero, List.set_cons_succ]
    refine Rest.held (i := 10) (v := ?_) rfl (by kernel_rfl) (by kernel_rfl) (by kernel_rfl) (fun _ _ _ h => h) hs (Or.inl ⟨by kernel_rfl, ?_⟩) ?_
    rotate_left 1
    · (intro w hSw; (try dsimp only at hSw); go_simp; try with_reducible rfl)
    simp only [List.getElem_toArray, List.getElem_cons_succ, List.getElem_cons_zero, Act.put, List.setIfInBounds_toArray, List.set_cons_zero, List.set_cons_succ]
    refine Rest.held (i := 11) (v := ?_) rfl (by kernel_rfl) (by kernel_rfl) (by kernel_rfl) (fun _ _ _ h => h) hs (Or.inl ⟨by kernel_rfl, ?_⟩) ?_
    rotate_left 1
    · (intro w hSw; (try dsimp only at hSw); go_simp; try with_reducible rfl)
    simp only [List.getElem_toArray, List.getElem_cons_succ, List.getElem_cons_zero, Act.put, List.setIfInBounds_toArray, List.set_cons_zero, List.set_cons_succ]
    refine Rest.held (i := 12) (v := ?_) rfl (by kernel_rfl) (by kernel_rfl) (by kernel_rfl) (fun _ _ _ h => h) hs (Or.inl ⟨by kernel_rfl, ?_⟩) ?_
    rotate_left 1
    · (intro w hSw; (try dsimp only at hSw); go_simp; try with_reducible rfl)
    simp only [List.getElem_toArray, List.getElem_cons_succ, List.getElem_cons_zero, Act.put, List.setIfInBounds_toArray, List.set_cons_zero, List.set_cons_succ]
    refine Rest.held (i := 13) (v := ?_) rfl (by kernel_rfl) (by kernel_rfl) (by kernel_rfl) (fun _ _ _ h => h) hs (Or.inl ⟨by kernel_rfl, ?_⟩) ?_
    rotate_left 1
    · (intro w hSw; (try dsimp only at hSw); go_simp; try with_reducible rfl)
    simp only [List.getElem_toArray, List.getElem_cons_succ, List.getElem_cons_zero, Act.put, List.setIfInBounds_toArray, List.set_cons_zero, List.set_cons_succ]
    refine Rest.held (i := 14) (v := ?_) rfl (by kernel_rfl) (by kernel_rfl) (by kernel_rfl) (fun _ _ _ h => h) hs (Or.inl ⟨by kernel_rfl, ?_⟩) ?_
    rotate_left 1
    · (intro w hSw; (try dsimp only at hSw); go_simp; try with_reducible rfl)
    simp only [List.getElem_toArray, List.getElem_cons_succ, List.getElem_cons_zero, Act.put, List.setIfInBounds_toArray, List.set_cons_zero, List.set_cons_succ]
    refine Rest.held (i := 15) (v := ?_) rfl (by kernel_rfl) (by kernel_rfl) (by kernel_rfl) (fun _ _ _ h => h) hs (Or.inl ⟨by kernel_rfl, ?_⟩) ?_
    rotate_left 1
    · (intro w hSw; (try dsimp only at hSw); go_simp; try with_reducible rfl)
    simp only [List.getElem_toArray, List.getElem_cons_succ, List.getElem_cons_zero, Act.put, List.setIfInBounds_toArray, List.set_cons_zero, List.set_cons_succ]
    refine Rest.held (i := 18) (v := ?_) rfl (by kernel_rfl) (by kernel_rfl) (by kernel_rfl) (fun _ _ _ h => h) hs (Or.inl ⟨by kernel_rfl, ?_⟩) ?_
    rotate_left 1
    · (intro w hSw; (try dsimp only at hSw); go_simp; try with_reducible rfl)
    simp only [List.getElem_toArray, List.getElem_cons_succ, List.getElem_cons_zero, Act.put, List.setIfInBounds_toArray, List.set_cons_zero, List.set_cons_succ]
    refine Rest.held (i := 19) (v := ?_) rfl (by kernel_rfl) (by kernel_rfl) (by kernel_rfl) (fun _ _ _ h => h) hs (Or.inl ⟨by kernel_rfl, ?_⟩) ?_
    rotate_left 1
    · (intro w hSw; (try dsimp only at hSw); go_simp; try with_reducible rfl)
    simp only [List.getElem_toArray, List.getElem_cons_succ, List.getElem_cons_zero, Act.put, List.setIfInBounds_toArray, List.set_cons_zero, List.set_cons_succ]
    refine Rest.held (i := 20) (v := ?_) rfl (by kernel_rfl) (by kernel_rfl) (by kernel_rfl) (fun _ _ _ h => h) hs (Or.inl ⟨by kernel_rfl, ?_⟩) ?_
    rotate_left 1
    · (intro w hSw; (try dsimp only at hSw); go_simp; try with_reducible rfl)
    simp only [List.getElem_toArray, List.getElem_cons_succ, List.getElem_cons_zero, Act.put, List.setIfInBounds_toArray, List.set_cons_zero, List.set_cons_succ]
    refine Rest.held (i := 21) (v := ?_) rfl (by kernel_rfl) (by kernel_rfl) (by kernel_rfl) (fun _ _ _ h => h) hs (Or.inl ⟨by kernel_rfl, ?_⟩) ?_
    rotate_left 1
    · (intro w hSw; (try dsimp only at hSw); go_simp; try with_reducible rfl)
    simp only [List.getElem_toArray, List.getElem_cons_succ, List.getElem_cons_zero, Act.put, List.setIfInBounds_toArray, List.set_cons_zero, List.set_cons_succ]
    refine Rest.held (i := 22) (v := ?_) rfl (by kernel_rfl) (by kernel_rfl) (by kernel_rfl) (fun _ _ _ h => h) hs (Or.inl ⟨by kernel_rfl, ?_⟩) ?_
    rotate_left 1
    · (intro w hSw; (try dsimp only at hSw); go_simp; try with_reducible rfl)
    simp only [List.getElem_toArray, List.getElem_cons_succ, List.getElem_cons_zero, Act.put, List.setIfInBounds_toArray, List.set_cons_zero, List.set_cons_succ]
    refine Rest.held (i := 23) (v := ?_) rfl (by kernel_rfl) (by kernel_rfl) (by kernel_rfl) (fun _ _ _ h => h) hs (Or.inl ⟨by kernel_rfl, ?_⟩) ?_
    rotate_left 1
    · (intro w hSw; (try dsimp only at hSw); go_simp; try with_reducible rfl)
    simp only [List.getElem_toArray, List.getElem_cons_succ, List.getElem_cons_zero, Act.put, List.setIfInBounds_toArray, List.set_cons_zero, List.set_cons_succ]
    refine Rest.held (i := 24) (v := ?_) rfl (by kernel_rfl) (by kernel_rfl) (by kernel_rfl) (fun _ _ _ h => h) hs (Or.inl ⟨by kernel_rfl, ?_⟩) ?_
    rotate_left 1
    · (intro w hSw; (try dsimp only at hSw); go_simp; try with_reducible rfl)
    simp only [List.getElem_toArray, List.getElem_cons_succ, List.getElem_cons_zero, Act.put, List.setIfInBounds_toArray, List.set_cons_zero, List.set_cons_succ]
    refine Rest.one (i := 16) (by kernel_rfl) rfl ?_
    intro K hK
    rw [if_pos (by kernel_rfl)]
    go_simp
    go_at_call 31
    ((with_reducible refine (HWIN.out _ (hhd _ hh0)).mono ?_); rintro e wq ⟨Aw, cw, rfl, hHq⟩)
    replace hs := HK0.out wq hHq
    refine hK.out _ _ hs ?_
    clear hK K
    refine Rest.held (i := 17) (v := ?_) rfl (by kernel_rfl) (by kernel_rfl) (by kernel_rfl) (fun _ _ _ h => h) hs (Or.inl ⟨by kernel_rfl, ?_⟩) ?_
    rotate_left 1
    · (intro w hSw; (try dsimp only at hSw); go_simp; try with_reducible rfl)
    simp only [List.getElem_toArray, List.getElem_cons_succ, List.getElem_cons_zero, Act.put, List.setIfInBounds_toArray, List.set_cons_zero, List.set_cons_succ]
    refine Rest.held (i := 25) (v := ?_) rfl (by kernel_rfl) (by kernel_rfl) (by kernel_rfl) (fun _ _ _ h => h) hs (Or.inl ⟨by kernel_rfl, ?_⟩) ?_
    rotate_left 1
    · (intro w hSw; (try dsimp only at hSw); go_simp; try with_reducible rfl)
    simp only [List.getElem_toArray, List.getElem_cons_succ, List.getElem_cons_zero, Act.put, List.setIfInBounds_toArray, List.set_cons_zero, List.set_cons_succ]
    refine Rest.held (i := 26) (v := ?_) rfl (by kernel_rfl) (by kernel_rfl) (by kernel_rfl) (fun _ _ _ h => h) hs (Or.inl ⟨by kernel_rfl, ?_⟩) ?_
    rotate_left 1
    · (intro w hSw; (try dsimp only at hSw); go_simp; try with_reducible rfl)
    simp only [List.getElem_toArray, List.getElem_cons_succ, List.getElem_cons_zero, Act.put, List.setIfInBounds_toArray, List.set_cons_zero, List.set_cons_succ]
    refine Rest.held (i := 27) (v := ?_) rfl (by kernel_rfl) (by kernel_rfl) (by kernel_rfl) (fun _ _ _ h => h) hs (Or.inl ⟨by kernel_rfl, ?_⟩) ?_
    rotate_left 1
    · (intro w hSw; (try dsimp only at hSw); go_simp; try with_reducible rfl)
    simp only [List.getElem_toArray, List.getElem_cons_succ, List.getElem_cons_zero, Act.put, List.setIfInBounds_toArray, List.set_cons_zero, List.set_cons_succ]
    refine Rest.held (i := 28) (v := ?_) rfl (by kernel_rfl) (by kernel_rfl) (by kernel_rfl) (fun _ _ _ h => h) hs (Or.inl ⟨by kernel_rfl, ?_⟩) ?_
    rotate_left 1
    · (intro w hSw; (try dsimp only at hSw); go_simp; try with_reducible rfl)
    simp only [List.getElem_toArray, List.getElem_cons_succ, List.getElem_cons_zero, Act.put, List.setIfInBounds_toArray, List.set_cons_zero, List.set_cons_succ]
    refine Rest.held (i := 29) (v := ?_) rfl (by kernel_rfl) (by kernel_rfl) (by kernel_rfl) (fun _ _ _ h => h) hs (Or.inl ⟨by kernel_rfl, ?_⟩) ?_
    rotate_left 1
    · (intro w hSw; (try dsimp only at hSw); go_simp; try with_reducible rfl)
    simp only [List.getElem_toArray, List.getElem_cons_succ, List.getElem_cons_zero, Act.put, List.setIfInBounds_toArray, List.set_cons_zero, List.set_cons_succ]
    refine Rest.held (i := 30) (v := ?_) rfl (by kernel_rfl) (by kernel_rfl) (by kernel_rfl) (fun _ _ _ h => h) hs (Or.inl ⟨by kernel_rfl, ?_⟩) ?_
    rotate_left 1
    · (intro w hSw; (try dsimp only at hSw); go_simp; try with_reducible rfl)
    simp only [List.getElem_toArray, List.getElem_cons_succ, List.getElem_cons_zero, Act.put, List.setIfInBounds_toArray, List.set_cons_zero, List.set_cons_succ]
    refine Rest.held (i := 31) (v := ?_) rfl (by kernel_rfl) (by kernel_rfl) (by kernel_rfl) (fun _ _ _ h => h) hs (Or.inl ⟨by kernel_rfl, ?_⟩) ?_
    rotate_left 1
    · (intro w hSw; (try dsimp only at hSw); go_simp; try with_reducible rfl)
    simp only [List.getElem_toArray, List.getElem_cons_succ, List.getElem_cons_zero, Act.put, List.setIfInBounds_toArray, List.set_cons_zero, List.set_cons_succ]
    refine Rest.held (i := 32) (v := ?_) rfl (by kernel_rfl) (by kernel_rfl) (by kernel_rfl) (fun _ _ _ h => h) hs (Or.inl ⟨by kernel_rfl, ?_⟩) ?_
    rotate_left 1
    · (intro w hSw; (try dsimp only at hSw); go_simp; try with_reducible rfl)
    simp only [List.getElem_toArray, List.getElem_cons_succ, List.getElem_cons_zero, Act.put, List.setIfInBounds_toArray, List.set_cons_zero, List.set_cons_succ]
    refine Rest.held (i := 33) (v := undef) rfl (by kernel_rfl) (by kernel_rfl) (by kernel_rfl) (fun _ _ _ h => h) hs (Or.inr ⟨by kernel_rfl, rfl⟩) ?_
    simp only [List.getElem_toArray, List.getElem_cons_succ, List.getElem_cons_zero, Act.put, List.setIfInBounds_toArray, List.set_cons_zero, List.set_cons_succ]
    refine Rest.held (i := 34) (v := undef) rfl (by kernel_rfl) (by kernel_rfl) (by kernel_rfl) (fun _ _ _ h => h) hs (Or.inr ⟨by kernel_rfl, rfl⟩) ?_
    simp only [List.getElem_toArray, List.getElem_cons_succ, List.getElem_cons_zero, Act.put, List.setIfInBounds_toArray, List.set_cons_zero, List.set_cons_succ]
    refine Rest.held (i := 35) (v := undef) rfl (by kernel_rfl) (by kernel_rfl) (by kernel_rfl) (fun _ _ _ h => h) hs (Or.inr ⟨by kernel_rfl, rfl⟩) ?_
    simp only [List.getElem_toArray, List.getElem_cons_succ, List.getElem_cons_zero, Act.put, List.setIfInBounds_toArray, List.set_cons_zero, List.set_cons_succ]
    refine Rest.held (i := 36) (v := ?_) rfl (by kernel_rfl) (by kernel_rfl) (by kernel_rfl) (fun _ _ _ h => h) hs (Or.inl ⟨by kernel_rfl, ?_⟩) ?_
    rotate_left 1
    · (intro w hSw; (try dsimp only at hSw); go_simp; try with_reducible rfl)
    simp only [List.getElem_toArray, List.getElem_cons_succ, List.getElem_cons_zero, Act.put, List.setIfInBounds_toArray, List.set_cons_zero, List.set_cons_succ]
    refine Rest.done (by kernel_rfl) ?_ _
    have HHQ := Aside0.mk hHq
    clear hHq HK0 hh0 hhd HWIN hs
    go_wp2_with fail
    go_ret
    exact ⟨_, rfl, HNO.out _ HE.out HHQ.out⟩
  have hr0' := decide_eq_false hr0
  by_cases hr1 : 6 < x.r
  · have hr1' := decide_eq_true hr1
    have HE : Aside0 (readyR c m x = (m, [])) := ⟨by rw [HWH.out, if_neg (by omega), if_pos (by omega)]⟩
    have HK0 : Aside0 (∀ w', HeldN wA w' → (w'.cell? ⟨g, 3, none⟩ = some (.int .i64 x.p) ∧ w'.cell? ⟨g, 7, none⟩ = some (.int .i64 x.r) ∧ w'.cell? ⟨gR, 1, none⟩ = some (.int .i64 c.job.parts) ∧ w'.cell? ⟨gR, 0, none⟩ = some (.slice h.A1 N h.c1))) := ⟨fun w' hw => by
      have hq := (hw.block g (blk_lt' HGA.out)).trans HGA.out
      have q := HQ.out.below hw
      exact ⟨cell_of_blk hq, cell_of_blk hq, q.c_parts, by rw [HN.out]; exact q.c_splits⟩⟩
    have hh0 : HeldN wA wA := Below.refl _ _
    have hhd : ∀ w', HeldN wA w' → HeldN wA w'.drew := fun w' h => h.then_ (below_drew w')
    go_upto_region 1 with (fail)
    go_region_held_law (fun w' => (w'.cell? ⟨g, 3, none⟩ = some (.int .i64 x.p) ∧ w'.cell? ⟨g, 7, none⟩ = some (.int .i64 x.r) ∧ w'.cell? ⟨gR, 1, none⟩ = some (.int .i64 c.job.parts) ∧ w'.cell? ⟨gR, 0, none⟩ = some (.slice h.A1 N h.c1))) (first | assumption | exact HK0.out _ (by first | assumption | exact hhd _ hh0))
      (first | (go_at_call 31; ((with_reducible refine (HWIN.out _ (by first | assumption | exact hhd _ hh0)).mono ?_); rintro e wq ⟨Aw, cw, rfl, hHq⟩)))
    all_goals
      have HHQ := Aside0.mk hHq
      clear hHq HK0 hh0 hhd HWIN
      go_wp2_with fail
      go_ret
      exact ⟨_, rfl, HNO.out _ HE.out HHQ.out⟩
  have hr1' := decide_eq_false hr1
  have HK0 : Aside0 (∀ w', HeldN wA w' → (w'.cell? ⟨g, 3, none⟩ = some (.int .i64 x.p) ∧ w'.cell? ⟨g, 7, none⟩ = some (.int .i64 x.r) ∧ w'.cell? ⟨gR, 1, none⟩ = some (.int .i64 c.job.parts) ∧ w'.cell? ⟨gR, 0, none⟩ = some (.slice h.A1 N h.c1))) := ⟨fun w' hw => by
    have hq := (hw.block g (blk_lt' HGA.out)).trans HGA.out
    have q := HQ.out.below hw
    exact ⟨cell_of_blk hq, cell_of_blk hq, q.c_parts, by rw [HN.out]; exact q.c_splits⟩⟩
  have hh0 : HeldN wA wA := Below.refl _ _
  have hhd : ∀ w', HeldN wA w' → HeldN wA w'.drew := fun w' h => h.then_ (below_drew w')
  go_upto_region 1 with (fail)
  go_region_held_law (fun w' => (w'.cell? ⟨g, 3, none⟩ = some (.int .i64 x.p) ∧ w'.cell? ⟨g, 7, none⟩ = some (.int .i64 x.r) ∧ w'.cell? ⟨gR, 1, none⟩ = some (.int .i64 c.job.parts) ∧ w'.cell? ⟨gR, 0, none⟩ = some (.slice h.A1 N h.c1))) (first | assumption | exact HK0.out _ (by first | assumption | exact hhd _ hh0))
    (first | (go_at_call 31; ((with_reducible refine (HWIN.out _ (by first | assumption | exact hhd _ hh0)).mono ?_); rintro e wq ⟨Aw, cw, rfl, hHq⟩)))
  all_goals
    have HHQ := Aside0.mk hHq
    clear hHq HK0 hh0 hhd HWIN
    have HQ := Aside0.mk (HQ.out.below HHQ.out)
    have HGQ := Aside0.mk ((HHQ.out.block g (blk_lt' HGA.out)).trans HGA.out)
    have HBQ := Aside0.mk (below_then HB.out HB.out.size HHQ.out)
    have y3 : wq.cell? ⟨g, 3, none⟩ = some (.int .i64 x.p) := cell_of_blk HGQ.out
    have y7 : wq.cell? ⟨g, 7, none⟩ = some (.int .i64 x.r) := cell_of_blk HGQ.out
    have d7 : wq.drew.cell? ⟨g, 7, none⟩ = some (.int .i64 x.r) := y7
    have d3 : wq.drew.cell? ⟨g, 3, none⟩ = some (.int .i64 x.p) := y3
    by_cases hrz : x.r = 0
    case' neg =>
      have hrz' : (x.r != 0) = true := bne_iff_ne.2 hrz
      have HE : Aside0 (R = (endS m 2 x.r, [⟨3, x.p, 0, 1, x.r, [], []⟩])) := ⟨by rw [HR.out, HWH.out, if_pos (by omega)]⟩
      have f47 := HQ.out.c_st
      have f48 := HQ.out.c_why
      have z47 := HQ.out.fr 47
      have z48 := HQ.out.fr 48
      go_upto_region 4 with (fail)
      go_region
      all_goals
        obtain ⟨w5, hw5⟩ : ∃ w5, w5 = ((wq.setCell ⟨gR, 47, none⟩ (.int .i64 2)).setCell ⟨gR, 48, none⟩ (.int .i64 x.r)).drew := ⟨_, rfl⟩
        rw [← hw5]
        have hp := ((HQ.out.put 47 (.int .i64 2) { m with st := 2 } rfl rfl (fun _ => ⟨rfl, rfl, rfl⟩) HQ.out.rd).put 48 (.int .i64 x.r) (endS m 2 x.r) rfl rfl (fun _ => ⟨rfl, rfl, rfl⟩) HQ.out.rd).below (below_drew _)
        have hc : Ch wq w5 F := by rw [hw5]; exact (((Ch.refl wq F).setCell _ _ HQ.out.fR).setCell _ _ HQ.out.fR).trans (Ch.of_below (S := F) (below_drew _)) (fun _ _ h => h)
        rw [← hw5] at hp
        have hG5 := hc.blk HGQ.out (fun hh => by have := HFLT.out _ hh; have := HG.out; omega)
        have e3 : w5.cell? ⟨g, 3, none⟩ = some (.int .i64 x.p) := cell_of_blk hG5
        have e7 : w5.cell? ⟨g, 7, none⟩ = some (.int .i64 x.r) := cell_of_blk hG5
        have HP5 := Aside0.mk hp
        have HC5 := Aside0.mk ((Ch.of_below (S := F) HBQ.out).trans hc (fun _ _ h => h))
        have HEN : Aside0 (∀ wZ, wZ = w5.alloc (.cells #[.int .i64 3, .int .i64 x.p, .int .i64 0, .int .i64 1, .int .i64 x.r, .slice none 0 0, .slice none 0 0] 90) → RfPost w gR F c h R.1 (.slice (some ⟨w5.heap.size, 0, none⟩) 1 1) R.2 wZ) := ⟨fun wZ hZ => by
          have hb : HeldN w5 wZ := by rw [hZ]; exact (Below.refl _ _).alloc (Nat.le_refl _) _
          rw [HE.out]
          exact rec_post (HP5.out.below hb) (HC5.out.trans (Ch.of_below (S := F) hb) (fun _ _ h => h)) 3 x.p 0 1 x.r _ (by rw [hZ]; exact alloc_at w5 _)⟩
        clear hp hc hG5 hw5 y3 y7 d3 d7 f47 f48 z47 z48
        go_wp2_with fail
        go_ret
        exact ⟨_, rfl, HEN.out _ rfl⟩
    have hrz' : (x.r != 0) = false := by rw [hrz]; rfl
    obtain ⟨k, hk⟩ : ∃ k : Nat, x.p = k := ⟨x.p.toNat, by have := HPP.out.1; omega⟩
    have hk4 : k < 4 := by have := HPP.out.2; have := HP4.out.2; omega
    have hk4I : (k : Int) < 4 := by omega
    have hk0 : (0 : Int) ≤ (k : Int) := by omega
    obtain ⟨np, hnp⟩ : ∃ np : Nat, c.job.parts = np := ⟨c.job.parts.toNat, by have := HP4.out.1; omega⟩
    have hnp4 : np ≤ 4 := by have := HP4.out.2; omega
    have HK4 := Aside0.mk hk4
    have HNP := Aside0.mk hnp
    have HE0 : Aside0 (R = if false ∈ (rdSet m k).rd.take np then (rdSet m k, []) else (endS (rdSet m k) 1 0, [⟨2, 0, 0, 0, 0, [], []⟩])) := ⟨by rw [HR.out, HWH.out, if_neg (by omega), if_neg (fun hh => hh hrz), hk, hnp, Int.toNat_natCast, Int.toNat_natCast]⟩
    rw [hk] at y3 d3
    have a43 := add13 gR 43 k
    have f43 := HQ.out.c_rd k hk4
    have z43 := HQ.out.fr (43 + k)
    clear hk hk4 hnp
    go_upto_region 6 with (fail)
    go_region
    all_goals
      obtain ⟨w6, hw6⟩ : ∃ w', w' = (wq.setCell ⟨gR, 43 + k, none⟩ (.bool true)).drew := ⟨_, rfl⟩
      rw [← hw6]
      have hp := (HQ.out.put (43 + k) (.bool true) (rdSet m k) (rf_rd c h m cv k HK4.out HQ.out.rd) rfl (fun _ => ⟨rfl, rfl, rfl⟩) (by show (m.rd.set k true).length = 4; rw [List.length_set]; exact HQ.out.rd)).below (below_drew _)
      have hc : Ch wq w6 F := by rw [hw6]; exact ((Ch.refl wq F).setCell _ _ HQ.out.fR).trans (Ch.of_below (S := F) (below_drew _)) (fun _ _ h => h)
      rw [← hw6] at hp
      have HP6 := Aside0.mk hp
      have HC6 := Aside0.mk ((Ch.of_below (S := F) HBQ.out).trans hc (fun _ _ h => h))
      have f1 := hp.c_parts
      rw [HNP.out] at f1
      clear hp hc hw6 y3 y7 d3 d7 f43 z43 a43
      go_wp2_with fail
      go_loopg [5] np (fun kq v5 w' => ∃ i : Nat, i + kq = np ∧ v5 = .int .i64 i ∧ Aside0 (∀ j, j < i → (rdSet m k).rd.getD j false = true) ∧ w' = w6)
      case atStart => exact ⟨0, by omega, rfl, ⟨fun j hj => by omega⟩, rfl⟩
      case round =>
        obtain ⟨i, hi, rfl, HA, rfl⟩ := hrel
        by_cases hlt : i < np
        · have hltI : (i : Int) < np := by omega
          have hi0 : (0 : Int) ≤ (i : Int) := by omega
          have hi4 : (i : Int) < 4 := by omega
          have g43 := HP6.out.c_rd i (by omega)
          have a43 := add13 gR 43 i
          obtain ⟨b, hb⟩ : ∃ b, b = (rdSet m k).rd.getD i false := ⟨_, rfl⟩
          rw [← hb] at g43
          have HBB := Aside0.mk hb
          clear hb
          cases b
          · have HE : Aside0 (R = (rdSet m k, [])) := ⟨by
              rw [HE0.out, if_pos]
              have hl : i < (rdSet m k).rd.length := by rw [HP6.out.rd]; omega
              have e := HBB.out
              rw [List.getD_eq_getElem?_getD, List.getElem?_eq_getElem hl] at e
              have e : false = (rdSet m k).rd[i] := e
              rw [List.mem_iff_getElem]
              exact ⟨i, by rw [List.length_take]; omega, by rw [List.getElem_take]; exact e.symm⟩⟩
            go_wp2_with fail
            go_ret
            exact ⟨_, rfl, by rw [HE.out]; exact ⟨F, none, 0, rfl, C_zero _ _, ⟨_, _, HP6.out⟩, fun _ h => .inl h, HC6.out⟩⟩
          · go_wp2_with fail
            go_roundg (np - (i + 1))
            case measure => omega
            case rel => exact ⟨i + 1, by omega, by go_num, ⟨fun j hj => by
              rcases Nat.lt_or_ge j i with h1 | h1
              · exact HA.out j h1
              · obtain rfl : j = i := by omega
                exact HBB.out.symm⟩, rfl⟩
        · obtain rfl : np = i := by omega
          have hltI : ¬ (np : Int) < np := by omega
          have HE : Aside0 (R = (endS (rdSet m k) 1 0, [⟨2, 0, 0, 0, 0, [], []⟩])) := ⟨by
            rw [HE0.out, if_neg]
            intro hm
            obtain ⟨j, hj, e⟩ := List.getElem_of_mem hm
            have hj' : j < np := by rw [List.length_take] at hj; omega
            have e2 := HA.out j hj'
            rw [List.getElem_take] at e
            rw [List.getD_eq_getElem?_getD, List.getElem?_eq_getElem (by rw [List.length_take] at hj; omega), e] at e2
            cases e2⟩
          have f47 := HP6.out.c_st
          have z47 := HP6.out.fr 47
          have hwhy : (rdSet m k).why = 0 := HWY.out
          have HEN : Aside0 (∀ w5 wZ, w5 = wr.setCell ⟨gR, 47, none⟩ (.int .i64 1) → wZ = w5.alloc (.cells #[.int .i64 2, .int .i64 0, .int .i64 0, .int .i64 0, .int .i64 0, .slice none 0 0, .slice none 0 0] 90) → RfPost w gR F c h R.1 (.slice (some ⟨wr.heap.size, 0, none⟩) 1 1) R.2 wZ) := ⟨fun w5 wZ h5 hZ => by
            have hsz : w5.heap.size = wr.heap.size := by rw [h5]; simp [World.setCell]
            have hp := HP6.out.put 47 (.int .i64 1) (endS (rdSet m k) 1 0) (by unfold endS; rw [show (0 : Int) = (rdSet m k).why from hwhy.symm]; rfl) rfl (fun _ => ⟨rfl, rfl, rfl⟩) HP6.out.rd
            have hc : Ch wr w5 F := by rw [h5]; exact HP6.out.chR 47 _
            rw [← h5] at hp
            have hb : HeldN w5 wZ := by rw [hZ]; exact (Below.refl _ _).alloc (Nat.le_refl _) _
            rw [HE.out]
            exact rec_post (hp.below hb) ((HC6.out.trans hc (fun _ _ h => h)).trans (Ch.of_below (S := F) hb) (fun _ _ h => h)) 2 0 0 0 0 _ (by rw [hZ, ← hsz]; exact alloc_at w5 _)⟩
          clear hwhy
          go_wp2_with fail
          go_ret
          exact ⟨_, rfl, HEN.out (wr.setCell ⟨gR, 47, none⟩ (.int .i64 1)) _ rfl rfl⟩
end
end Go.Proofs.Ytbnhhlahbhjogaa.K
namespace Go.Proofs.Ytbnhhlahbhjogaa.K
open Go.RowKit Go.Proofs.YtbnhhlahbhjogaaW.PrintWords Go.Proofs.YtbnhhlahbhjogaaW.PrintLast Go.Proofs.YtbnhhlahbhjogaaW.PrintMore Go.Proofs.Ytbnhhlahbhjogaa.U Go.Proofs.Ytbnhhlahbhjogaa.T

set_option maxHeartbeats 1600000 in
theorem rfHasN (A0 : Option Addr) (c0 : Nat) (l0 : List Int) (x : Int) (w : World) (hr0 : Kd.C kI w A0 l0.length l0) (r : Bool) (hr : r = true ↔ x ∈ l0) :
    Calls Try.prog 93 #[.slice A0 l0.length c0, .int .i64 x] w fun e w' => e = .returned (.bool r) ∧ w' = w := by
  have HR := Aside0.mk hr
  have HR0 := Aside0.mk hr0
  obtain ⟨n, hn⟩ : ∃ n, n = l0.length := ⟨_, rfl⟩
  have hmx := Kd.C_max hr0
  have HN := Aside0.mk hn
  rw [← hn] at hmx ⊢
  clear hr hr0 hn
  go_enter Try.func93, Try.ntmps93
  go_wp2_with fail
  go_loopg [5] n (fun kq v5 w' => ∃ (k : Nat), k + kq = n ∧ v5 = .int .i64 k ∧ Aside0 (∀ j (h : j < l0.length), j < k → l0[j] ≠ x) ∧ w' = w)
  case atStart => exact ⟨0, by omega, rfl, ⟨fun _ _ h => absurd h (Nat.not_lt_zero _)⟩, rfl⟩
  case round =>
    obtain ⟨k, hk, rfl, HA, rfl⟩ := hrel
    by_cases hlt : k < n
    · have hltI : (k : Int) < n := by omega
      have hk0 : (0 : Int) ≤ (k : Int) := by omega
      have hkl : k < l0.length := by rw [← HN.out]; exact hlt
      obtain ⟨ad, rfl, hc⟩ := at_intz HR0.out k hkl
      obtain ⟨y, hy⟩ : ∃ y, y = l0[k] := ⟨_, rfl⟩
      rw [← hy] at hc
      by_cases he : y = x
      · have HE : Aside0 (r = true) := ⟨HR.out.2 (by rw [← he, hy]; exact List.getElem_mem hkl)⟩
        subst he
        clear hy hkl
        go_wp2_with fail
        go_ret
        exact ⟨by rw [HE.out]; rfl, rfl⟩
      · have heb : (y == x) = false := by simpa using he
        have HA2 : Aside0 (∀ j (h : j < l0.length), j < k + 1 → l0[j] ≠ x) := ⟨fun j h hj => by
          by_cases hjk : j = k
          · subst hjk
            rw [← hy]
            exact he
          · exact HA.out j h (by omega)⟩
        clear hy hkl he
        go_wp2_with fail
        go_roundg (n - (k + 1))
        case measure => omega
        case rel => exact ⟨k + 1, by omega, by go_num, HA2, rfl⟩
    · obtain rfl : k = n := by omega
      have HE : Aside0 (r = false) := ⟨by
        cases r with
        | false => rfl
        | true =>
          obtain ⟨j, hj, e⟩ := List.mem_iff_getElem.1 (HR.out.1 rfl)
          exact absurd e (HA.out j hj (by rw [HN.out]; exact hj))⟩
      go_wp2_with fail
      go_ret
      exact ⟨by rw [HE.out]; rfl, rfl⟩
def lkR (m : MaS) (set : List Int) (k : Nat) : List Int := (winUp m k).filter (fun n => decide (n ∉ set))
theorem lkR_no (m : MaS) (set : List Int) (k : Nat) (h : (S_ m k).won = false ∨ (k : Int) ∈ set) : lkR m set (k + 1) = lkR m set k := by
  unfold lkR
  show ((if (m.sp.getD k zeroS).won = true then _ else _) : List Int).filter _ = _
  rcases h with h | h
  · rw [if_neg (by rw [show (m.sp.getD k zeroS).won = false from h]; decide)]
  · split
    · rw [List.filter_append]
      simp [h]
    · rfl
theorem lkR_yes (m : MaS) (set : List Int) (k : Nat) (h : (S_ m k).won = true) (hs : (k : Int) ∉ set) : lkR m set (k + 1) = lkR m set k ++ [(k : Int)] := by
  unfold lkR
  show ((if (m.sp.getD k zeroS).won = true then _ else _) : List Int).filter _ = _
  rw [if_pos (show (m.sp.getD k zeroS).won = true from h), List.filter_append]
  simp [hs]
theorem lkR_all (m : MaS) (set : List Int) : lackF m set (winners m).length = lkR m set m.sp.length := by
  unfold lackF lkR
  rw [List.take_length]
  rfl
theorem lkR_len (m : MaS) (set : List Int) (k : Nat) : (lkR m set k).length ≤ k := Nat.le_trans (List.length_filter_le _ _) (winUp_len m k)
theorem lkR_mem (m : MaS) (set : List Int) (k : Nat) (n : Int) (h : n ∈ lkR m set k) : ∃ j : Nat, n = j ∧ j < k ∧ (S_ m j).won = true := winUp_mem m k n (List.mem_filter.1 h).1
section
variable {w w' : World} {gR : Nat} {F S : Nat → Prop} {c : CfgD} {h : CfH} {m : MaS} {cv : Nat → Value} {ok : Nat → Prop}
def helloR (c : CfgD) (m : MaS) (frm : Int) (x : MsgD) : MaS × List FLet := if 0 ≤ x.p ∧ x.p < c.job.parts then helloF c m frm x else (m, [])
/-- What the document's master answers of letters. -/
def RfPostL (w : World) (gR : Nat) (F : Nat → Prop) (c : CfgD) (h : CfH) (m' : MaS) (v : Value) (ls : List FLet) (w' : World) : Prop := ∃ A n, v = .slice A ls.length n ∧ Kd.C kLet w' A ls.length (ls.map FLet.d) ∧ RfR w' gR F c h m' ∧ Ch w w' F
set_option maxHeartbeats 12800000 in
theorem rfHello (p : RfP w gR F c h m cv ok) (frm : Int) (x : MsgD) (A1 A2 : Option Addr) (c1 c2 lp : Nat) (hx : Kd.C kI w A1 x.set.length x.set) (hr0 : 0 ≤ m.round) (hr1 : m.round ≤ 1000000) :
    Calls Try.prog 80 #[.pointer (some ⟨gR, 0, none⟩), .int .i64 frm, msgV x (.slice A1 x.set.length c1) (.slice A2 lp c2)] w fun e w' => ∃ v, e = .returned v ∧ RfPostL w gR F c h (helloR c m frm x).1 v (helloR c m frm x).2 w' := by
  obtain ⟨ls, hls⟩ : ∃ ls, ls = x.set.length := ⟨_, rfl⟩
  obtain ⟨g, hg⟩ : ∃ g, g = w.heap.size := ⟨_, rfl⟩
  obtain ⟨wA, hwA⟩ : ∃ wA, wA = w.alloc (.cells #[.int .i64 x.k, .int .i64 x.s, .int .i64 x.a, .int .i64 x.p, .int .i64 x.q, .int .i64 x.n, .int .i64 x.e, .int .i64 x.r, .slice A1 ls c1, .slice A2 lp c2] 45) := ⟨_, rfl⟩
  have hbA : Below w.heap.size w wA := by rw [hwA]; exact (Below.refl _ _).alloc (Nat.le_refl _) _
  have hgA : wA.heap[g]? = some (.cells ([.int .i64 x.k, .int .i64 x.s, .int .i64 x.a, .int .i64 x.p, .int .i64 x.q, .int .i64 x.n, .int .i64 x.e, .int .i64 x.r, .slice A1 ls c1, .slice A2 lp c2] : List Value).toArray 45 (0, 0)) := by rw [hwA, hg]; exact alloc_at w _
  have q := p.below hbA
  have hxA := Kd.C_below hx hbA
  have hmx := Kd.C_max hxA
  obtain ⟨R, hR⟩ : ∃ R, R = helloR c m frm x := ⟨_, rfl⟩
  obtain ⟨N, hN⟩ : ∃ N, N = c.job.splits.length := ⟨_, rfl⟩
  have hNs : m.sp.length = N := by rw [hN]; exact p.len
  have hN6 : N ≤ 6 := by rw [hN]; exact p.n6
  have hum := Try.underlying45
  have hul := Try.underlying51
  have huc := Try.underlying28
  have huj := Try.underlying26
  have HP := Aside0.mk p
  have HQ := Aside0.mk q
  have HX := Aside0.mk hxA
  have HLS := Aside0.mk hls
  have HB := Aside0.mk hbA
  have HWA := Aside0.mk hwA
  have HG := Aside0.mk hg
  have HGA := Aside0.mk hgA
  have HR := Aside0.mk hR
  have HN := Aside0.mk hN
  have HNS := Aside0.mk hNs
  have HP4 : Aside0 (1 ≤ c.job.parts ∧ c.job.parts ≤ 4) := ⟨q.may.job.parts⟩
  rw [← hR]
  rw [← hls] at hmx
  rw [← hls]
  unfold msgV
  clear p q hx hxA hls hwA hg hbA hgA hR hN hNs
  go_enter Try.func80, Try.ntmps80
  go_upto_region 1 with (fail)
  rw [show w.alloc (.cells #[.int .i64 x.k, .int .i64 x.s, .int .i64 x.a, .int .i64 x.p, .int .i64 x.q, .int .i64 x.n, .int .i64 x.e, .int .i64 x.r, .slice A1 ls c1, .slice A2 lp c2] 45) = wA from HWA.out.symm, ← HG.out]
  by_cases hp0 : x.p < 0
  · have hp0' := decide_eq_true hp0
    have HE : Aside0 (R = (m, [])) := ⟨by rw [HR.out]; unfold helloR; rw [if_neg (by omega)]⟩
    have y3 : wA.cell? ⟨g, 3, none⟩ = some (.int .i64 x.p) := cell_of_blk HGA.out
    have f1 := HQ.out.c_parts
    go_upto_region 1 with (fail)
    go_quiet (fail)
    go_wp2_with fail
    go_ret
    exact ⟨_, rfl, by rw [HE.out]; exact ⟨none, 0, rfl, C_zero _ _, ⟨_, _, HQ.out.below (pw_below_drewN (Below.refl _ _) _)⟩, Ch.of_below (S := F) (below_then HB.out HB.out.size (pw_below_drewN (Below.refl _ _) _))⟩⟩
  have hp0' := decide_eq_false hp0
  by_cases hp1 : c.job.parts ≤ x.p
  · have hp1' := decide_eq_true hp1
    have HE : Aside0 (R = (m, [])) := ⟨by rw [HR.out]; unfold helloR; rw [if_neg (by omega)]⟩
    have y3 : wA.cell? ⟨g, 3, none⟩ = some (.int .i64 x.p) := cell_of_blk HGA.out
    have f1 := HQ.out.c_parts
    go_upto_region 1 with (fail)
    go_quiet (fail)
    go_wp2_with fail
    go_ret
    exact ⟨_, rfl, by rw [HE.out]; exact ⟨none, 0, rfl, C_zero _ _, ⟨_, _, HQ.out.below (pw_below_drewN (Below.refl _ _) _)⟩, Ch.of_below (S := F) (below_then HB.out HB.out.size (pw_below_drewN (Below.refl _ _) _))⟩⟩
  have hp1' := decide_eq_false hp1
  have HE0 : Aside0 (R = helloF c m frm x) := ⟨by rw [HR.out]; unfold helloR; rw [if_pos ⟨by omega, by omega⟩]⟩
  have y3 : wA.cell? ⟨g, 3, none⟩ = some (.int .i64 x.p) := cell_of_blk HGA.out
  have f1 := HQ.out.c_parts
  go_upto_region 1 with (fail)
  go_quiet (fail)
  obtain ⟨wq, hwq⟩ : ∃ wq, wq = wA.drewN nq := ⟨_, rfl⟩
  have hbq : HeldN wA wq := by rw [hwq]; exact pw_below_drewN (Below.refl wA.heap.size wA) _
  rw [← hwq]
  obtain ⟨pk, hpk⟩ : ∃ k : Nat, x.p = k := ⟨x.p.toNat, by omega⟩
  have hpk0 : (0 : Int) ≤ (pk : Int) := by omega
  obtain ⟨np, hnp⟩ : ∃ np : Nat, c.job.parts = np := ⟨c.job.parts.toNat, by have := HP4.out.1; omega⟩
  have hpn : pk < np := by omega
  have hpnI : (pk : Int) < (np : Int) := by omega
  have hnp4 : np ≤ 4 := by have := HP4.out.2; omega
  have HPK := Aside0.mk hpk
  have HNP := Aside0.mk hnp
  have HPN := Aside0.mk hpn
  have HBQ := Aside0.mk (below_then HB.out HB.out.size hbq)
  have HQQ := Aside0.mk (HQ.out.below hbq)
  have HGQ := Aside0.mk ((hbq.block g (blk_lt' HGA.out)).trans HGA.out)
  have HXQ := Aside0.mk (Kd.C_below HX.out hbq)
  have HSZ : Aside0 (w.heap.size ≤ wq.heap.size) := ⟨HBQ.out.size⟩
  clear hwq hbq hpk hnp y3 f1 hp0 hp1 hp0' hp1'
  go_wp2_with fail
  go_loopg [7, 8, 9] N (fun kq v7 v8 v9 w' => ∃ (s : Nat) (A7 : Option Addr) (n7 l7 : Nat), s + kq = N ∧ v9 = .int .i64 s ∧ v8 = .int .i64 (firstI (lkR m x.set s)) ∧ v7 = .slice A7 l7 n7 ∧ Aside0 (l7 = (lkR m x.set s).length ∧ l7 ≤ s) ∧ Aside0 (LetsP w' wq.heap.size (.slice A7 l7 n7) ((lkR m x.set s).map (tellL m frm x.p))) ∧ Aside0 (HeldN wq w'))
  case atStart => exact ⟨0, none, 0, 0, by omega, rfl, rfl, rfl, ⟨rfl, by omega⟩, ⟨LetsP.nil _ _⟩, ⟨Below.refl _ _⟩⟩
  case round =>
    obtain ⟨s, A7, n7, l7, hsq, rfl, rfl, rfl, HL7, HLE, HBW⟩ := hrel
    have HQR := Aside0.mk (HQQ.out.below HBW.out)
    have hcn := HQR.out.c_splits
    rw [← HN.out] at hcn
    by_cases hsN : s < N
    · have hsNI : (s : Int) < N := by omega
      have hs0 : (0 : Int) ≤ (s : Int) := by omega
      have hs6' : s < 6 := by omega
      have hs6 : (s : Int) < 6 := by omega
      have HS6 := Aside0.mk hs6'
      have hGr := (HBW.out.block g (blk_lt' HGQ.out)).trans HGQ.out
      obtain ⟨at_, hat⟩ : ∃ a, a = wonI (S_ m s) := ⟨_, rfl⟩
      have hwz := wonI_zero HQR.out s
      have f31 := HQR.out.c_won s hs6'
      rw [← hat] at f31 hwz
      have a31 := add13 gR 31 s
      have y8 : wr.cell? ⟨g, 8, none⟩ = some (.slice A1 ls c1) := cell_of_blk hGr
      obtain ⟨rc, hrc⟩ := bool_of ((s : Int) ∈ x.set)
      have hhs := rfHasN A1 c1 x.set (s : Int) wr (Kd.C_below HXQ.out HBW.out) rc hrc
      rw [← HLS.out] at hhs
      have HHS := Aside0.mk hhs
      have HRC := Aside0.mk hrc
      have HAT := Aside0.mk hat
      have HGR := Aside0.mk hGr
      have HF1 : Aside0 (wq.cell? ⟨gR, 31 + s, none⟩ = some (.int .i64 at_)) := ⟨by rw [hat]; exact HQQ.out.c_won s hs6'⟩
      clear hs6' hrc hhs hat hGr
      cases hw : (S_ m s).won with
      | false =>
        have hz := hwz.2 hw
        have hz' : (at_ == 0) = true := by rw [hz]; rfl
        have HUP : Aside0 (lkR m x.set (s + 1) = lkR m x.set s) := ⟨lkR_no m x.set s (.inl hw)⟩
        have HL7 : Aside0 (l7 = (lkR m x.set s).length ∧ l7 ≤ s + 1) := ⟨HL7.out.1, by have := HL7.out.2; omega⟩
        clear hw hwz
        go_wp2_with fail
        go_roundg (N - (s + 1))
        case measure => omega
        case rel => exact ⟨s + 1, A7, n7, l7, by omega, by go_num, by rw [HUP.out], rfl, by rw [HUP.out]; exact HL7, ⟨by rw [HUP.out]; exact HLE.out⟩, HBW⟩
      | true =>
        have hz : ¬ at_ = 0 := fun hh => by rw [hwz.1 hh] at hw; cases hw
        have hz' : (at_ == 0) = false := beq_eq_false_iff_ne.2 hz
        have HW := Aside0.mk hw
        have HATT : Aside0 (at_ = (S_ m s).att) := ⟨by rw [HAT.out]; unfold wonI; rw [if_pos hw]⟩
        clear hw hwz
        go_wp2_with fail
        refine HHS.out.mono ?_
        rintro e wr ⟨rfl, rfl⟩
        cases rc with
        | true =>
          have HUP : Aside0 (lkR m x.set (s + 1) = lkR m x.set s) := ⟨lkR_no m x.set s (.inr (HRC.out.1 rfl))⟩
          have HL7 : Aside0 (l7 = (lkR m x.set s).length ∧ l7 ≤ s + 1) := ⟨HL7.out.1, by have := HL7.out.2; omega⟩
          go_wp2_with fail
          go_roundg (N - (s + 1))
          case measure => omega
          case rel => exact ⟨s + 1, A7, n7, l7, by omega, by go_num, by rw [HUP.out], rfl, by rw [HUP.out]; exact HL7, ⟨by rw [HUP.out]; exact HLE.out⟩, HBW⟩
        | false =>
          have HUP : Aside0 (lkR m x.set (s + 1) = lkR m x.set s ++ [(s : Int)]) := ⟨lkR_yes m x.set s HW.out (fun hh => by have := HRC.out.2 hh; cases this)⟩
          have HSN : Aside0 (firstI (lkR m x.set (s + 1)) = if lkR m x.set s = [] then (s : Int) else firstI (lkR m x.set s)) := ⟨by rw [HUP.out, firstI_snoc]⟩
          obtain ⟨hcR, hcL⟩ := HQQ.out.cnt s (by rw [HNS.out]; exact hsN) HW.out
          obtain ⟨cnt, hcnt⟩ : ∃ l, l = (S_ m s).counts := ⟨_, rfl⟩
          rw [← hcnt] at hcR hcL
          rw [HNP.out] at hcL
          have hcl : cnt.length = np := by omega
          obtain ⟨ao, cc, hcv, _, hcC⟩ := Kd.R_reads hcR
          obtain ⟨ac, rfl, hct⟩ := at_intz hcC pk (by rw [hcl]; exact HPN.out)
          obtain ⟨ct, hctd⟩ : ∃ y, y = cnt[pk]'(by rw [hcl]; exact HPN.out) := ⟨_, rfl⟩
          rw [← hctd] at hct
          have HCT : Aside0 ((S_ m s).counts.getD pk 0 = ct) := ⟨by rw [← hcnt, List.getD_eq_getElem?_getD, List.getElem?_eq_getElem (by rw [hcl]; exact HPN.out), hctd]; rfl⟩
          have HF4 := Aside0.mk hct
          have HF3 : Aside0 (wq.cell? ⟨gR, 37 + s, none⟩ = some (.slice (some ac) np cc)) := ⟨by
            have := HQQ.out.c_cnt s HS6.out
            rw [hcv, hcl] at this
            exact this⟩
          have HF2 : Aside0 (wq.cell? ⟨g, 3, none⟩ = some (.int .i64 (pk : Int))) := ⟨by have := cell_of_blk HGQ.out (j := 3); rw [HPK.out] at this; exact this⟩
          have HFZ : Aside0 (fz (tellL m frm x.p s) = fz ⟨frm, 7, s, at_, pk, ct, 0⟩) := ⟨by
            unfold tellL
            rw [Int.toNat_natCast, HPK.out, Int.toNat_natCast]
            rw [show (m.sp.getD s zeroS).counts.getD pk 0 = ct from HCT.out, HATT.out]
            rfl⟩
          have hlt7 : ((lkR m x.set s).map (tellL m frm x.p)).length = l7 := by rw [List.length_map]; exact HL7.out.1.symm
          have HLA : Aside0 (∀ w', HeldN wr w' → ∀ ty, Runs Try.prog (Builtin.append_ #[39, 39] ty #[.slice A7 l7 n7, .slice (some ⟨w'.heap.size, 0, none⟩) 1 1]) (w'.alloc (.cells #[.int .i64 0, .int .i64 frm, .int .i64 7, .int .i64 (s : Int), .int .i64 at_, .int .i64 (pk : Int), .int .i64 0, .int .i64 ct, .int .i64 0, .int .i64 0, .slice none 0 0, .slice none 0 0] 51)) fun v w9 => ∃ A8 n8, v = .slice A8 (l7 + 1) n8 ∧ Aside0 (LetsP w9 wq.heap.size (.slice A8 (l7 + 1) n8) ((lkR m x.set (s + 1)).map (tellL m frm x.p)) ∧ HeldN wq w9)) := ⟨fun w' hw ty => by
            refine (lets_app w' wq.heap.size (.slice A7 l7 n7) _ (tellL m frm x.p s) (HLE.out.below hw) (HBW.out.then_ hw).size (by rw [hlt7]; have := HL7.out.2; omega) _ (by rw [HFZ.out]; rfl) ty).mono ?_
            rintro v w9 ⟨hO9, hc9⟩
            obtain ⟨A8, n8, rfl, _⟩ := hO9.reads
            rw [List.length_append, hlt7, List.length_singleton] at hO9 ⊢
            refine ⟨A8, n8, rfl, ⟨by rw [HUP.out, List.map_append]; exact hO9, Below.ch (HBW.out.then_ hw) hc9 (HBW.out.then_ hw).size (fun i hi => Own.base_ HLE.out i hi)⟩⟩⟩
          have HL9 : Aside0 (l7 + 1 = (lkR m x.set (s + 1)).length ∧ l7 + 1 ≤ s + 1) := ⟨by rw [HUP.out, List.length_append, ← HL7.out.1]; rfl, by have := HL7.out.2; omega⟩
          clear hlt7 hct hctd hcC hcv hcl hcL hcR hcnt f31 a31 y8 hcn
          have HK0 : Aside0 (∀ w', HeldN wq w' → (w'.cell? ⟨gR, 31 + s, none⟩ = some (.int .i64 at_) ∧ w'.cell? ⟨g, 3, none⟩ = some (.int .i64 (pk : Int)) ∧ w'.cell? ⟨gR, 37 + s, none⟩ = some (.slice (some ac) np cc) ∧ w'.cell? (ac.add pk) = some (.int .i64 ct))) := ⟨fun w' hw => by
            have k := fun {a : Addr} {v : Value} (hh : wq.cell? a = some v) => (Ch.of_below hw (fun _ => False)).cell hh (fun h => h)
            exact ⟨k HF1.out, k HF2.out, k HF3.out, k HF4.out⟩⟩
          have a37 := add13 gR 37 s
          go_upto_region 9 with (fail)
          refine Rest.begin (S := fun _ w' => (w'.cell? ⟨gR, 31 + s, none⟩ = some (.int .i64 at_) ∧ w'.cell? ⟨g, 3, none⟩ = some (.int .i64 (pk : Int)) ∧ w'.cell? ⟨gR, 37 + s, none⟩ = some (.slice (some ac) np cc) ∧ w'.cell? (ac.add pk) = some (.int .i64 ct))) (by kernel_rfl) ?_
          have hs := HK0.out wr.drew (HBW.out.then_ (below_drew _))
          refine Rest.held (i := 0) (v := ?_) rfl (by kernel_rfl) (by kernel_rfl) (by kernel_rfl) (fun _ _ _ h => h) hs (Or.inl ⟨by kernel_rfl, ?_⟩) ?_
          rotate_left 1
          · (intro w hSw; (try dsimp only at hSw); go_simp; try with_reducible rfl)
          simp only [List.getElem_toArray, List.getElem_cons_succ, List.getElem_cons_zero, Act.put, List.setIfInBounds_toArray, List.set_cons_zero, List.set_cons_succ]
          refine Rest.held (i := 1) (v := ?_) rfl (by kernel_rfl) (by kernel_rfl) (by kernel_rfl) (fun _ _ _ h => h) hs (Or.inl ⟨by kernel_rfl, ?_⟩) ?_
          rotate_left 1
          · (intro w hSw; (try dsimp only at hSw); go_simp; try with_reducible rfl)
          simp only [List.getElem_toArray, List.getElem_cons_succ, List.getElem_cons_zero, Act.put, List.setIfInBounds_toArray, List.set_cons_zero, List.set_cons_succ]
          refine Rest.held (i := 2) (v := ?_) rfl (by kernel_rfl) (by kernel_rfl) (by kernel_rfl) (fun _ _ _ h => h) hs (Or.inl ⟨by kernel_rfl, ?_⟩) ?_
          rotate_left 1
          · (intro w hSw; (try dsimp only at hSw); go_simp; try with_reducible rfl)
          simp only [List.getElem_toArray, List.getElem_cons_succ, List.getElem_cons_zero, Act.put, List.setIfInBounds_toArray, List.set_cons_zero, List.set_cons_succ]
          refine Rest.held (i := 3) (v := ?_) rfl (by kernel_rfl) (by kernel_rfl) (by kernel_rfl) (fun _ _ _ h => h) hs (Or.inl ⟨by kernel_rfl, ?_⟩) ?_
          rotate_left 1
          · (intro w hSw; (try dsimp only at hSw); go_simp; try with_reducible rfl)
          simp only [List.getElem_toArray, List.getElem_cons_succ, List.getElem_cons_zero, Act.put, List.setIfInBounds_toArray, List.set_cons_zero, List.set_cons_succ]
          refine Rest.held (i := 4) (v := ?_) rfl (by kernel_rfl) (by kernel_rfl) (by kernel_rfl) (fun _ _ _ h => h) hs (Or.inl ⟨by kernel_rfl, ?_⟩) ?_
          rotate_left 1
          · (intro w hSw; (try dsimp only at hSw); go_simp; try with_reducible rfl)
          simp only [List.getElem_toArray, List.getElem_cons_succ, List.getElem_cons_zero, Act.put, List.setIfInBounds_toArray, List.set_cons_zero, List.set_cons_succ]
          refine Rest.held (i := 5) (v := ?_) rfl (by kernel_rfl) (by kernel_rfl) (by kernel_rfl) (fun _ _ _ h => h) hs (Or.inl ⟨by kernel_rfl, ?_⟩) ?_
          rotate_left 1
          · (intro w hSw; (try dsimp only at hSw); go_simp; try with_reducible rfl)
          simp only [List.getElem_toArray, List.getElem_cons_succ, List.getElem_cons_zero, Act.put, List.setIfInBounds_toArray, List.set_cons_zero, List.set_cons_succ]
          refine Rest.held (i := 6) (v := ?_) rfl (by kernel_rfl) (by kernel_rfl) (by kernel_rfl) (fun _ _ _ h => h) hs (Or.inl ⟨by kernel_rfl, ?_⟩) ?_
          rotate_left 1
          · (intro w hSw; (try dsimp only at hSw); go_simp; try with_reducible rfl)
          simp only [List.getElem_toArray, List.getElem_cons_succ, List.getElem_cons_zero, Act.put, List.setIfInBounds_toArray, List.set_cons_zero, List.set_cons_succ]
          refine Rest.held (i := 7) (v := ?_) rfl (by kernel_rfl) (by kernel_rfl) (by kernel_rfl) (fun _ _ _ h => h) hs (Or.inl ⟨by kernel_rfl, ?_⟩) ?_
          rotate_left 1
          · (intro w hSw; (try dsimp only at hSw); go_simp; try with_reducible rfl)
          simp only [List.getElem_toArray, List.getElem_cons_succ, List.getElem_cons_zero, Act.put, List.setIfInBounds_toArray, List.set_cons_zero, List.set_cons_succ]
          refine Rest.held (i := 8) (v := ?_) rfl (by kernel_rfl) (by kernel_rfl) (by kernel_rfl) (fun _ _ _ h => h) hs (Or.inl ⟨by kernel_rfl, ?_⟩) ?_
          rotate_left 1
          · (intro w hSw; (try dsimp only at hSw); go_simp; try with_reducible rfl)
          simp only [List.getElem_toArray, List.getElem_cons_succ, List.getElem_cons_zero, Act.put, List.setIfInBounds_toArray, List.set_cons_zero, List.set_cons_succ]
          refine Rest.held (i := 9) (v := ?_) rfl (by kernel_rfl) (by kernel_rfl) (by kernel_rfl) (fun _ _ _ h => h) hs (Or.inl ⟨by kernel_rfl, ?_⟩) ?_
          rotate_left 1
          · (intro w hSw; (try dsimp only at hSw); go_simp; try with_reducible rfl)
          simp only [List.getElem_toArray, List.getElem_cons_succ, List.getElem_cons_zero, Act.put, List.setIfInBounds_toArray, List.set_cons_zero, List.set_cons_succ]
          refine Rest.held (i := 10) (v := ?_) rfl (by kernel_rfl) (by kernel_rfl) (by kernel_rfl) (fun _ _ _ h => h) hs (Or.inl ⟨by kernel_rfl, ?_⟩) ?_
          rotate_left 1
          · (intro w hSw; (try dsimp only at hSw); go_simp; try with_reducible rfl)
          simp only [List.getElem_toArray, List.getElem_cons_succ, List.getElem_cons_zero, Act.put, List.setIfInBounds_toArray, List.set_cons_zero, List.set_cons_succ]
          refine Rest.held (i := 11) (v := ?_) rfl (by kernel_rfl) (by kernel_rfl) (by kernel_rfl) (fun _ _ _ h => h) hs (Or.inl ⟨by kernel_rfl, ?_⟩) ?_
          rotate_left 1
          · (intro w hSw; (try dsimp only at hSw); go_simp; try with_reducible rfl)
          simp only [List.getElem_toArray, List.getElem_cons_succ, List.getElem_cons_zero, Act.put, List.setIfInBounds_toArray, List.set_cons_zero, List.set_cons_succ]
          refine Rest.held (i := 12) (v := ?_) rfl (by kernel_rfl) (by kernel_rfl) (by kernel_rfl) (fun _ _ _ h => h) hs (Or.inl ⟨by kernel_rfl, ?_⟩) ?_
          rotate_left 1
          · (intro w hSw; (try dsimp only at hSw); go_simp; try with_reducible rfl)
          simp only [List.getElem_toArray, List.getElem_cons_succ, List.getElem_cons_zero, Act.put, List.setIfInBounds_toArray, List.set_cons_zero, List.set_cons_succ]
          refine Rest.held (i := 13) (v := ?_) rfl (by kernel_rfl) (by kernel_rfl) (by kernel_rfl) (fun _ _ _ h => h) hs (Or.inl ⟨by kernel_rfl, ?_⟩) ?_
          rotate_left 1
          · (intro w hSw; (try dsimp only at hSw); go_simp; try with_reducible rfl)
          simp only [List.getElem_toArray, List.getElem_cons_succ, List.getElem_cons_zero, Act.put, List.setIfInBounds_toArray, List.set_cons_zero, List.set_cons_succ]
          refine Rest.held (i := 14) (v := ?_) rfl (by kernel_rfl) (by kernel_rfl) (by kernel_rfl) (fun _ _ _ h => h) hs (Or.inl ⟨by kernel_rfl, ?_⟩) ?_
          rotate_left 1
          · (intro w hSw; (try dsimp only at hSw); go_simp; try with_reducible rfl)
          simp only [List.getElem_toArray, List.getElem_cons_succ, List.getElem_cons_zero, Act.put, List.setIfInBounds_toArray, List.set_cons_zero, List.set_cons_succ]
          refine Rest.held (i := 15) (v := ?_) rfl (by kernel_rfl) (by kernel_rfl) (by kernel_rfl) (fun _ _ _ h => h) hs (Or.inl ⟨by kernel_rfl, ?_⟩) ?_
          rotate_left 1
          · (intro w hSw; (try dsimp only at hSw); go_simp; try with_reducible rfl)
          simp only [List.getElem_toArray, List.getElem_cons_succ, List.getElem_cons_zero, Act.put, List.setIfInBounds_toArray, List.set_cons_zero, List.set_cons_succ]
          refine Rest.held (i := 16) (v := ?_) rfl (by kernel_rfl) (by kernel_rfl) (by kernel_rfl) (fun _ _ _ h => h) hs (Or.inl ⟨by kernel_rfl, ?_⟩) ?_
          rotate_left 1
          · (intro w hSw; (try dsimp only at hSw); go_simp; try with_reducible rfl)
          simp only [List.getElem_toArray, List.getElem_cons_succ, List.getElem_cons_zero, Act.put, List.setIfInBounds_toArray, List.set_cons_zero, List.set_cons_succ]
          refine Rest.held (i := 17) (v := ?_) rfl (by kernel_rfl) (by kernel_rfl) (by kernel_rfl) (fun _ _ _ h => h) hs (Or.inl ⟨by kernel_rfl, ?_⟩) ?_
          rotate_left 1
          · (intro w hSw; (try dsimp only at hSw); go_simp; try with_reducible rfl)
          simp only [List.getElem_toArray, List.getElem_cons_succ, List.getElem_cons_zero, Act.put, List.setIfInBounds_toArray, List.set_cons_zero, List.set_cons_succ]
          refine Rest.held (i := 18) (v := ?_) rfl (by kernel_rfl) (by kernel_rfl) (by kernel_rfl) (fun _ _ _ h => h) hs (Or.inl ⟨by kernel_rfl, ?_⟩) ?_
          rotate_left 1
          · (intro w hSw; (try dsimp only at hSw); go_simp; try with_reducible rfl)
          simp only [List.getElem_toArray, List.getElem_cons_succ, List.getElem_cons_zero, Act.put, List.setIfInBounds_toArray, List.set_cons_zero, List.set_cons_succ]
          refine Rest.held (i := 19) (v := ?_) rfl (by kernel_rfl) (by kernel_rfl) (by kernel_rfl) (fun _ _ _ h => h) hs (Or.inl ⟨by kernel_rfl, ?_⟩) ?_
          rotate_left 1
          · (intro w hSw; (try dsimp only at hSw); go_simp; try with_reducible rfl)
          simp only [List.getElem_toArray, List.getElem_cons_succ, List.getElem_cons_zero, Act.put, List.setIfInBounds_toArray, List.set_cons_zero, List.set_cons_succ]
          refine Rest.held (i := 20) (v := ?_) rfl (by kernel_rfl) (by kernel_rfl) (by kernel_rfl) (fun _ _ _ h => h) hs (Or.inl ⟨by kernel_rfl, ?_⟩) ?_
          rotate_left 1
          · (intro w hSw; (try dsimp only at hSw); go_simp; try with_reducible rfl)
          simp only [List.getElem_toArray, List.getElem_cons_succ, List.getElem_cons_zero, Act.put, List.setIfInBounds_toArray, List.set_cons_zero, List.set_cons_succ]
          refine Rest.held (i := 21) (v := ?_) rfl (by kernel_rfl) (by kernel_rfl) (by kernel_rfl) (fun _ _ _ h => h) hs (Or.inl ⟨by kernel_rfl, ?_⟩) ?_
          rotate_left 1
          · (intro w hSw; (try dsimp only at hSw); go_simp; try with_reducible rfl)
          simp only [List.getElem_toArray, List.getElem_cons_succ, List.getElem_cons_zero, Act.put, List.setIfInBounds_toArray, List.set_cons_zero, List.set_cons_succ]
          refine Rest.held (i := 22) (v := ?_) rfl (by kernel_rfl) (by kernel_rfl) (by kernel_rfl) (fun _ _ _ h => h) hs (Or.inl ⟨by kernel_rfl, ?_⟩) ?_
          rotate_left 1
          · (intro w hSw; (try dsimp only at hSw); go_simp; try with_reducible rfl)
          simp only [List.getElem_toArray, List.getElem_cons_succ, List.getElem_cons_zero, Act.put, List.setIfInBounds_toArray, List.set_cons_zero, List.set_cons_succ]
          refine Rest.one (i := 23) (by kernel_rfl) rfl ?_
          intro K hK
          rw [if_pos (by kernel_rfl)]
          go_simp
          refine hK.out _ _ (HK0.out _ (HBW.out.then_ (HeldN.then_ (below_drew _) ((Below.refl _ _).alloc (Nat.le_refl _) _)))) ?_
          clear hK K
          refine Rest.one (i := 24) (by kernel_rfl) rfl ?_
          intro K hK
          refine step_app_run (by kernel_rfl) (.tmp 48) (.tmp 71) 39 rfl (.slice A7 l7 n7) (.slice (some ⟨wr.heap.size, 0, none⟩) 1 1) (by simp [Act.eval, Act.put]) (by simp [Act.eval, Act.put]) (HLA.out wr.drew (below_drew _)) ?_
          rintro _ w9 ⟨A8, n8, rfl, hA8⟩
          refine hK.out _ _ (HK0.out w9 hA8.out.2) ?_
          clear hK K
          refine Rest.held (i := 25) (v := ?_) rfl (by kernel_rfl) (by kernel_rfl) (by kernel_rfl) (fun _ _ _ h => h) (HK0.out w9 hA8.out.2) (Or.inl ⟨by kernel_rfl, ?_⟩) ?_
          rotate_left 1
          · (intro w hSw; (try dsimp only at hSw); go_simp; try with_reducible rfl)
          simp only [List.getElem_toArray, List.getElem_cons_succ, List.getElem_cons_zero, Act.put, List.setIfInBounds_toArray, List.set_cons_zero, List.set_cons_succ]
          refine Rest.done (by kernel_rfl) ?_ _
          have HLE9 := Aside0.mk hA8.out.1
          have HBW9 := Aside0.mk hA8.out.2
          clear hA8 hs HK0 HF1 HF2 HF3 HF4 a37
          cases hL : lkR m x.set s with
          | nil =>
            have HFK : Aside0 (firstI (lkR m x.set (s + 1)) = s) := ⟨by rw [HSN.out, if_pos hL]⟩
            rw [show firstI [] = -1 from rfl]
            clear hL
            go_wp2_with fail
            go_roundg (N - (s + 1))
            case measure => omega
            case rel => exact ⟨s + 1, A8, n8, l7 + 1, by omega, by go_num, by rw [HFK.out], rfl, HL9, HLE9, HBW9⟩
          | cons a0 l0 =>
            have HFK : Aside0 (firstI (lkR m x.set (s + 1)) = a0) := ⟨by rw [HSN.out, if_neg (by rw [hL]; simp), hL]; rfl⟩
            have ha0 : ¬ a0 < 0 := fun hh => by
              obtain ⟨q1, h1, _⟩ := lkR_mem m x.set s a0 (by rw [hL]; exact List.mem_cons_self ..)
              omega
            rw [show firstI (a0 :: l0) = a0 from rfl]
            clear hL
            go_wp2_with fail
            go_roundg (N - (s + 1))
            case measure => omega
            case rel => exact ⟨s + 1, A8, n8, l7 + 1, by omega, by go_num, by rw [HFK.out], rfl, HL9, HLE9, HBW9⟩
    · obtain rfl : N = s := by omega
      have hltI : ¬ (N : Int) < N := by omega
      have HLA0 : Aside0 (lackF m x.set (winners m).length = lkR m x.set N) := ⟨by rw [lkR_all, HNS.out]⟩
      cases hL : lkR m x.set N with
      | nil =>
        have HE : Aside0 (R = (m, [])) := ⟨by rw [HE0.out]; unfold helloF; rw [HLA0.out, if_pos hL]⟩
        have HL0 : Aside0 (l7 = 0) := ⟨by rw [HL7.out.1, hL]; rfl⟩
        have h0 : ¬ (0 : Int) ≤ -1 := by omega
        rw [show firstI [] = -1 from rfl]
        clear hL
        go_wp2_with fail
        go_ret
        exact ⟨_, rfl, by rw [HE.out, HL0.out]; exact ⟨A7, n7, rfl, by
          refine ⟨rfl, Nat.zero_le _, fun hh => (Nat.lt_irrefl 0 hh).elim⟩, ⟨_, _, HQR.out⟩, Ch.of_below (S := F) (below_then HBQ.out HBQ.out.size HBW.out)⟩⟩
      | cons a0 l0 =>
        obtain ⟨j, hj, hjN, hjw⟩ := lkR_mem m x.set N a0 (by rw [hL]; exact List.mem_cons_self ..)
        rw [show firstI (a0 :: l0) = a0 from rfl]
        have hj0 : (0 : Int) ≤ (j : Int) := by omega
        have hj6' : j < 6 := by omega
        have hj6 : (j : Int) < 6 := by omega
        have HJ6 := Aside0.mk hj6'
        obtain ⟨aj, haj⟩ : ∃ a, a = wonI (S_ m j) := ⟨_, rfl⟩
        have HAJ := Aside0.mk haj
        obtain ⟨TO, hTO⟩ : ∃ TO, TO = turnN true c.workers m.round := ⟨_, rfl⟩
        have HTO := Aside0.mk hTO
        have HE : Aside0 (R = (nextRound m, (lkR m x.set N).map (tellL m frm x.p) ++ [runL c m.round j aj])) := ⟨by
          rw [HE0.out]; unfold helloF
          rw [HLA0.out, if_neg (by rw [hL]; simp)]
          rw [show firstI (lkR m x.set N) = j from by rw [hL]; exact hj, Int.toNat_natCast]
          rw [haj, show wonI (S_ m j) = (m.sp.getD j zeroS).att from by unfold wonI; rw [if_pos hjw]; rfl]⟩
        rw [hj]
        have hlt7 : ((lkR m x.set N).map (tellL m frm x.p)).length = l7 := by rw [List.length_map]; exact HL7.out.1.symm
        have HLA : Aside0 (∀ w', HeldN wr w' → ∀ ty, Runs Try.prog (Builtin.append_ #[39, 39] ty #[.slice A7 l7 n7, .slice (some ⟨w'.heap.size, 0, none⟩) 1 1]) (w'.alloc (.cells #[.int .i64 0, .int .i64 TO, .int .i64 1, .int .i64 (j : Int), .int .i64 aj, .int .i64 0, .int .i64 0, .int .i64 0, .int .i64 0, .int .i64 0, .slice none 0 0, .slice none 0 0] 51)) fun v w9 => ∃ A8 n8, v = .slice A8 (l7 + 1) n8 ∧ Aside0 (LetsP w9 wq.heap.size (.slice A8 (l7 + 1) n8) ((lkR m x.set N).map (tellL m frm x.p) ++ [runL c m.round j aj]) ∧ HeldN wq w9)) := ⟨fun w' hw ty => by
          refine (lets_app w' wq.heap.size (.slice A7 l7 n7) _ (runL c m.round j aj) (HLE.out.below hw) (HBW.out.then_ hw).size (by rw [hlt7]; have := HL7.out.2; omega) _ (by unfold runL; rw [← HTO.out]; rfl) ty).mono ?_
          rintro v w9 ⟨hO9, hc9⟩
          obtain ⟨A8, n8, rfl, _⟩ := hO9.reads
          rw [List.length_append, hlt7, List.length_singleton] at hO9 ⊢
          refine ⟨A8, n8, rfl, ⟨hO9, Below.ch (HBW.out.then_ hw) hc9 (HBW.out.then_ hw).size (fun i hi => Own.base_ HLE.out i hi)⟩⟩⟩
        have HLN : Aside0 (((lkR m x.set N).map (tellL m frm x.p) ++ [runL c m.round j aj]).length = l7 + 1) := ⟨by rw [List.length_append, hlt7]; rfl⟩
        clear hlt7 hL haj hTO hj hjw hj6'
        have HK0 : Aside0 (∀ w', HeldN wq w' → (w'.cell? ⟨gR, 49, none⟩ = some (.int .i64 m.round) ∧ w'.cell? ⟨gR, 31 + j, none⟩ = some (.int .i64 aj) ∧ w'.cell? ⟨gR, 0, none⟩ = some (.slice h.A1 N h.c1) ∧ w'.cell? ⟨gR, 1, none⟩ = some (.int .i64 c.job.parts) ∧ w'.cell? ⟨gR, 2, none⟩ = some (.slice h.A2 c.job.map.length h.c2) ∧ w'.cell? ⟨gR, 3, none⟩ = some (.slice h.A3 c.job.combine.length h.c3) ∧ w'.cell? ⟨gR, 4, none⟩ = some (.slice h.A4 c.job.reduce.length h.c4) ∧ w'.cell? ⟨gR, 5, none⟩ = some (.int .i64 c.job.chunk) ∧ w'.cell? ⟨gR, 6, none⟩ = some (.int .i64 c.job.window) ∧ w'.cell? ⟨gR, 7, none⟩ = some (.int .i64 c.job.fuel) ∧ w'.cell? ⟨gR, 8, none⟩ = some (.slice h.A5 c.job.marks.length h.c5) ∧ w'.cell? ⟨gR, 9, none⟩ = some (.int .i64 c.workers) ∧ w'.cell? ⟨gR, 10, none⟩ = some (.int .i64 c.tries) ∧ w'.cell? ⟨gR, 11, none⟩ = some (.int .i64 c.timeout))) := ⟨fun w' hw => by
          have q := HQQ.out.below hw
          have f31 := q.c_won j HJ6.out
          rw [← HAJ.out] at f31
          have f0 := q.c_splits
          rw [← HN.out] at f0
          exact ⟨q.c_round, f31, f0, cell_of_blk q.blk, cell_of_blk q.blk, cell_of_blk q.blk, cell_of_blk q.blk, cell_of_blk q.blk, cell_of_blk q.blk, cell_of_blk q.blk, cell_of_blk q.blk, cell_of_blk q.blk, cell_of_blk q.blk, cell_of_blk q.blk⟩⟩
        have HTURN : Aside0 (∀ w', HeldN wr w' → Calls Try.prog 78 #[.agg #[.slice h.A1 N h.c1, .int .i64 c.job.parts, .slice h.A2 c.job.map.length h.c2, .slice h.A3 c.job.combine.length h.c3, .slice h.A4 c.job.reduce.length h.c4, .int .i64 c.job.chunk, .int .i64 c.job.window, .int .i64 c.job.fuel, .slice h.A5 c.job.marks.length h.c5, .int .i64 c.workers, .int .i64 c.tries, .int .i64 c.timeout], .int .i64 m.round] w' fun e w'' => e = .returned (.int .i64 TO) ∧ HeldN wr w'') := ⟨fun w' hw => by
          have h1 := refTurn c.job c.workers c.tries c.timeout h.A1 h.A2 h.A3 h.A4 h.A5 h.c1 h.c2 h.c3 h.c4 h.c5 w' ((HQR.out.below hw).cfg w' (Ch.refl _ _)) m.round HQR.out.may.workers.1 HQR.out.may.workers.2 TO HTO.out
          rw [← HN.out] at h1
          exact h1.mono (fun e w'' hh => ⟨hh.1, hw.then_ hh.2⟩)⟩
        have a31 := add13 gR 31 j
        have hh1 : HeldN wr wr.drew := below_drew wr
        go_upto_region 13 with (fail)
        refine Rest.begin (S := fun _ w' => (w'.cell? ⟨gR, 49, none⟩ = some (.int .i64 m.round) ∧ w'.cell? ⟨gR, 31 + j, none⟩ = some (.int .i64 aj) ∧ w'.cell? ⟨gR, 0, none⟩ = some (.slice h.A1 N h.c1) ∧ w'.cell? ⟨gR, 1, none⟩ = some (.int .i64 c.job.parts) ∧ w'.cell? ⟨gR, 2, none⟩ = some (.slice h.A2 c.job.map.length h.c2) ∧ w'.cell? ⟨gR, 3, none⟩ = some (.slice h.A3 c.job.combine.length h.c3) ∧ w'.cell? ⟨gR, 4, none⟩ = some (.slice h.A4 c.job.reduce.length h.c4) ∧ w'.cell? ⟨gR, 5, none⟩ = some (.int .i64 c.job.chunk) ∧ w'.cell? ⟨gR, 6, none⟩ = some (.int .i64 c.job.window) ∧ w'.cell? ⟨gR, 7, none⟩ = some (.int .i64 c.job.fuel) ∧ w'.cell? ⟨gR, 8, none⟩ = some (.slice h.A5 c.job.marks.length h.c5) ∧ w'.cell? ⟨gR, 9, none⟩ = some (.int .i64 c.workers) ∧ w'.cell? ⟨gR, 10, none⟩ = some (.int .i64 c.tries) ∧ w'.cell? ⟨gR, 11, none⟩ = some (.int .i64 c.timeout))) (by kernel_rfl) ?_
        have hs := HK0.out wr.drew (HBW.out.then_ (below_drew _))
        refine Rest.held (i := 0) (v := ?_) rfl (by kernel_rfl) (by kernel_rfl) (by kernel_rfl) (fun _ _ _ h => h) hs (Or.inl ⟨by kernel_rfl, ?_⟩) ?_
        rotate_left 1
        · (intro w hSw; (try dsimp only at hSw); go_simp; try with_reducible rfl)
        simp only [List.getElem_toArray, List.getElem_cons_succ, List.getElem_cons_zero, Act.put, List.setIfInBounds_toArray, List.set_cons_zero, List.set_cons_succ]
        refine Rest.held (i := 1) (v := ?_) rfl (by kernel_rfl) (by kernel_rfl) (by kernel_rfl) (fun _ _ _ h => h) hs (Or.inl ⟨by kernel_rfl, ?_⟩) ?_
        rotate_left 1
        · (intro w hSw; (try dsimp only at hSw); go_simp; try with_reducible rfl)
        simp only [List.getElem_toArray, List.getElem_cons_succ, List.getElem_cons_zero, Act.put, List.setIfInBounds_toArray, List.set_cons_zero, List.set_cons_succ]
        refine Rest.held (i := 2) (v := ?_) rfl (by kernel_rfl) (by kernel_rfl) (by kernel_rfl) (fun _ _ _ h => h) hs (Or.inl ⟨by kernel_rfl, ?_⟩) ?_
        rotate_left 1
        · (intro w hSw; (try dsimp only at hSw); go_simp; try with_reducible rfl)
        simp only [List.getElem_toArray, List.getElem_cons_succ, List.getElem_cons_zero, Act.put, List.setIfInBounds_toArray, List.set_cons_zero, List.set_cons_succ]
        refine Rest.held (i := 3) (v := ?_) rfl (by kernel_rfl) (by kernel_rfl) (by kernel_rfl) (fun _ _ _ h => h) hs (Or.inl ⟨by kernel_rfl, ?_⟩) ?_
        rotate_left 1
        · (intro w hSw; (try dsimp only at hSw); go_simp; try with_reducible rfl)
        simp only [List.getElem_toArray, List.getElem_cons_succ, List.getElem_cons_zero, Act.put, List.setIfInBounds_toArray, List.set_cons_zero, List.set_cons_succ]
        refine Rest.held (i := 4) (v := ?_) rfl (by kernel_rfl) (by kernel_rfl) (by kernel_rfl) (fun _ _ _ h => h) hs (Or.inl ⟨by kernel_rfl, ?_⟩) ?_
        rotate_left 1
        · (intro w hSw; (try dsimp only at hSw); go_simp; try with_reducible rfl)
        simp only [List.getElem_toArray, List.getElem_cons_succ, List.getElem_cons_zero, Act.put, List.setIfInBounds_toArray, List.set_cons_zero, List.set_cons_succ]
        refine Rest.held (i := 5) (v := ?_) rfl (by kernel_rfl) (by kernel_rfl) (by kernel_rfl) (fun _ _ _ h => h) hs (Or.inl ⟨by kernel_rfl, ?_⟩) ?_
        rotate_left 1
        · (intro w hSw; (try dsimp only at hSw); go_simp; try with_reducible rfl)
        simp only [List.getElem_toArray, List.getElem_cons_succ, List.getElem_cons_zero, Act.put, List.setIfInBounds_toArray, List.set_cons_zero, List.set_cons_succ]
        refine Rest.held (i := 6) (v := ?_) rfl (by kernel_rfl) (by kernel_rfl) (by kernel_rfl) (fun _ _ _ h => h) hs (Or.inl ⟨by kernel_rfl, ?_⟩) ?_
        rotate_left 1
        · (intro w hSw; (try dsimp only at hSw); go_simp; try with_reducible rfl)
        simp only [List.getElem_toArray, List.getElem_cons_succ, List.getElem_cons_zero, Act.put, List.setIfInBounds_toArray, List.set_cons_zero, List.set_cons_succ]
        refine Rest.held (i := 7) (v := ?_) rfl (by kernel_rfl) (by kernel_rfl) (by kernel_rfl) (fun _ _ _ h => h) hs (Or.inl ⟨by kernel_rfl, ?_⟩) ?_
        rotate_left 1
        · (intro w hSw; (try dsimp only at hSw); go_simp; try with_reducible rfl)
        simp only [List.getElem_toArray, List.getElem_cons_succ, List.getElem_cons_zero, Act.put, List.setIfInBounds_toArray, List.set_cons_zero, List.set_cons_succ]
        refine Rest.held (i := 8) (v := ?_) rfl (by kernel_rfl) (by kernel_rfl) (by kernel_rfl) (fun _ _ _ h => h) hs (Or.inl ⟨by kernel_rfl, ?_⟩) ?_
        rotate_left 1
        · (intro w hSw; (try dsimp only at hSw); go_simp; try with_reducible rfl)
        simp only [List.getElem_toArray, List.getElem_cons_succ, List.getElem_cons_zero, Act.put, List.setIfInBounds_toArray, List.set_cons_zero, List.set_cons_succ]
        refine Rest.held (i := 10) (v := ?_) rfl (by kernel_rfl) (by kernel_rfl) (by kernel_rfl) (fun _ _ _ h => h) hs (Or.inl ⟨by kernel_rfl, ?_⟩) ?_
        rotate_left 1
        · (intro w hSw; (try dsimp only at hSw); go_simp; try with_reducible rfl)
        simp only [List.getElem_toArray, List.getElem_cons_succ, List.getElem_cons_zero, Act.put, List.setIfInBounds_toArray, List.set_cons_zero, List.set_cons_succ]
        refine Rest.held (i := 11) (v := ?_) rfl (by kernel_rfl) (by kernel_rfl) (by kernel_rfl) (fun _ _ _ h => h) hs (Or.inl ⟨by kernel_rfl, ?_⟩) ?_
        rotate_left 1
        · (intro w hSw; (try dsimp only at hSw); go_simp; try with_reducible rfl)
        simp only [List.getElem_toArray, List.getElem_cons_succ, List.getElem_cons_zero, Act.put, List.setIfInBounds_toArray, List.set_cons_zero, List.set_cons_succ]
        refine Rest.held (i := 12) (v := ?_) rfl (by kernel_rfl) (by kernel_rfl) (by kernel_rfl) (fun _ _ _ h => h) hs (Or.inl ⟨by kernel_rfl, ?_⟩) ?_
        rotate_left 1
        · (intro w hSw; (try dsimp only at hSw); go_simp; try with_reducible rfl)
        simp only [List.getElem_toArray, List.getElem_cons_succ, List.getElem_cons_zero, Act.put, List.setIfInBounds_toArray, List.set_cons_zero, List.set_cons_succ]
        refine Rest.held (i := 13) (v := ?_) rfl (by kernel_rfl) (by kernel_rfl) (by kernel_rfl) (fun _ _ _ h => h) hs (Or.inl ⟨by kernel_rfl, ?_⟩) ?_
        rotate_left 1
        · (intro w hSw; (try dsimp only at hSw); go_simp; try with_reducible rfl)
        simp only [List.getElem_toArray, List.getElem_cons_succ, List.getElem_cons_zero, Act.put, List.setIfInBounds_toArray, List.set_cons_zero, List.set_cons_succ]
        refine Rest.held (i := 14) (v := ?_) rfl (by kernel_rfl) (by kernel_rfl) (by kernel_rfl) (fun _ _ _ h => h) hs (Or.inl ⟨by kernel_rfl, ?_⟩) ?_
        rotate_left 1
        · (intro w hSw; (try dsimp only at hSw); go_simp; try with_reducible rfl)
        simp only [List.getElem_toArray, List.getElem_cons_succ, List.getElem_cons_zero, Act.put, List.setIfInBounds_toArray, List.set_cons_zero, List.set_cons_succ]
        refine Rest.held (i := 15) (v := ?_) rfl (by kernel_rfl) (by kernel_rfl) (by kernel_rfl) (fun _ _ _ h => h) hs (Or.inl ⟨by kernel_rfl, ?_⟩) ?_
        rotate_left 1
        · (intro w hSw; (try dsimp only at hSw); go_simp; try with_reducible rfl)
        simp only [List.getElem_toArray, List.getElem_cons_succ, List.getElem_cons_zero, Act.put, List.setIfInBounds_toArray, List.set_cons_zero, List.set_cons_succ]
        refine Rest.held (i := 16) (v := ?_) rfl (by kernel_rfl) (by kernel_rfl) (by kernel_rfl) (fun _ _ _ h => h) hs (Or.inl ⟨by kernel_rfl, ?_⟩) ?_
        rotate_left 1
        · (intro w hSw; (try dsimp only at hSw); go_simp; try with_reducible rfl)
        simp only [List.getElem_toArray, List.getElem_cons_succ, List.getElem_cons_zero, Act.put, List.setIfInBounds_toArray, List.set_cons_zero, List.set_cons_succ]
        refine Rest.held (i := 17) (v := ?_) rfl (by kernel_rfl) (by kernel_rfl) (by kernel_rfl) (fun _ _ _ h => h) hs (Or.inl ⟨by kernel_rfl, ?_⟩) ?_
        rotate_left 1
        · (intro w hSw; (try dsimp only at hSw); go_simp; try with_reducible rfl)
        simp only [List.getElem_toArray, List.getElem_cons_succ, List.getElem_cons_zero, Act.put, List.setIfInBounds_toArray, List.set_cons_zero, List.set_cons_succ]
        refine Rest.one (i := 9) (by kernel_rfl) rfl ?_
        intro K hK
        rw [if_pos (by kernel_rfl)]
        go_simp
        go_at_call 78
        ((with_reducible refine (HTURN.out _ hh1).mono ?_); rintro e w5 ⟨rfl, hH5⟩)
        replace hs := HK0.out w5 (HBW.out.then_ hH5)
        refine hK.out _ _ hs ?_
        clear hK K
        refine Rest.held (i := 18) (v := ?_) rfl (by kernel_rfl) (by kernel_rfl) (by kernel_rfl) (fun _ _ _ h => h) hs (Or.inl ⟨by kernel_rfl, ?_⟩) ?_
        rotate_left 1
        · (intro w hSw; (try dsimp only at hSw); go_simp; try with_reducible rfl)
        simp only [List.getElem_toArray, List.getElem_cons_succ, List.getElem_cons_zero, Act.put, List.setIfInBounds_toArray, List.set_cons_zero, List.set_cons_succ]
        refine Rest.one (i := 19) (by kernel_rfl) rfl ?_
        intro K hK
        rw [if_pos (by kernel_rfl)]
        go_simp
        refine hK.out _ _ (HK0.out _ (HBW.out.then_ (hH5.then_ ((Below.refl _ _).alloc (Nat.le_refl _) _)))) ?_
        clear hK K
        refine Rest.one (i := 20) (by kernel_rfl) rfl ?_
        intro K hK
        refine step_app_run (by kernel_rfl) (.tmp 78) (.tmp 97) 39 rfl (.slice A7 l7 n7) (.slice (some ⟨w5.heap.size, 0, none⟩) 1 1) (by simp [Act.eval, Act.put]) (by simp [Act.eval, Act.put]) (HLA.out w5 hH5) ?_
        rintro _ w9 ⟨A8, n8, rfl, hA8⟩
        refine hK.out _ _ (HK0.out w9 hA8.out.2) ?_
        clear hK K
        refine Rest.held (i := 21) (v := ?_) rfl (by kernel_rfl) (by kernel_rfl) (by kernel_rfl) (fun _ _ _ h => h) (HK0.out w9 hA8.out.2) (Or.inl ⟨by kernel_rfl, ?_⟩) ?_
        rotate_left 1
        · (intro w hSw; (try dsimp only at hSw); go_simp; try with_reducible rfl)
        simp only [List.getElem_toArray, List.getElem_cons_succ, List.getElem_cons_zero, Act.put, List.setIfInBounds_toArray, List.set_cons_zero, List.set_cons_succ]
        refine Rest.done (by kernel_rfl) ?_ _
        have HLE9 := Aside0.mk hA8.out.1
        have HBW9 := Aside0.mk hA8.out.2
        clear hA8 hs HK0 HTURN hH5
        have HQ9 := Aside0.mk (HQQ.out.below HBW9.out)
        have f49 := HQ9.out.c_round
        have z49 := HQ9.out.fr 49
        have HEN : Aside0 (∀ wZ, wZ = w9.setCell ⟨gR, 49, none⟩ (.int .i64 (m.round + 1)) → RfPostL w gR F c h R.1 (.slice A8 (l7 + 1) n8) R.2 wZ) := ⟨fun wZ hZ => by
          have hp := HQ9.out.put 49 (.int .i64 (m.round + 1)) (nextRound m) rfl rfl (fun _ => ⟨rfl, rfl, rfl⟩) HQ9.out.rd
          have hc : Ch w9 wZ F := by rw [hZ]; exact HQ9.out.chR 49 _
          rw [← hZ] at hp
          have hL := HLE9.out.ch hc (fun i hi hF => by have := Own.base_ HLE9.out i hi; have := HQQ.out.flt i hF; omega)
          obtain ⟨A', n', e', hC⟩ := hL.reads
          rw [HLN.out] at e' hC
          injection e' with e1 e2 e3
          subst e1
          subst e3
          rw [HE.out]
          exact ⟨A8, n8, by rw [HLN.out], by rw [HLN.out]; exact hC, ⟨_, _, hp⟩, (Ch.of_below (S := F) (below_then HBQ.out HBQ.out.size HBW9.out)).trans hc (fun _ _ h => h)⟩⟩
        go_wp2_with fail
        go_ret
        exact ⟨_, rfl, HEN.out _ rfl⟩
end
end Go.Proofs.Ytbnhhlahbhjogaa.K
