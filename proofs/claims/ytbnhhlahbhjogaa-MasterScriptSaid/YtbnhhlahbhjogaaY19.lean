/- master.New. WRITTEN BY wip/gen_y19.py. -/
import Derived.Test.YtbnhhlahbhjogaaY18
import Derived.Test.YtbnhhlahbhjogaaY13
set_option linter.unusedVariables false
set_option linter.unusedSimpArgs false
set_option maxRecDepth 100000
namespace Go.Proofs.Ytbnhhlahbhjogaa.K
open Go.RowKit Go.Proofs.YtbnhhlahbhjogaaW.PrintWords Go.Proofs.YtbnhhlahbhjogaaW.PrintLast Go.Proofs.YtbnhhlahbhjogaaW.PrintMore Go.Proofs.Ytbnhhlahbhjogaa.U Go.Proofs.Ytbnhhlahbhjogaa.T

def m0 (c : CfgD) : MaS := ⟨0, List.replicate c.job.splits.length zeroS, [false, false, false, false], 0, 0, 0⟩
/-- What a record tells. -/
def recF (c : CfgD) (m : MaS) (r : RecD) : MaS :=
  if r.k = 1 then (if (r.set.length : Int) = c.job.parts ∧ 1 ≤ r.a ∧ r.a ≤ c.tries then (match openN m r.s with | some j => winK m j r.a r.set | none => m) else m)
  else if r.k = 2 then (if m.st = 0 then { m with st := 1 } else m) else if r.k = 3 then (if m.st = 0 then endS m 2 r.r else m) else m
def newK (c : CfgD) (rs : List RecD) (k : Nat) : MaS := (rs.take k).foldl (recF c) (m0 c)
def newF (c : CfgD) (rs : List RecD) : MaS := rs.foldl (recF c) (m0 c)
theorem newK_succ (c : CfgD) (rs : List RecD) (k : Nat) (hk : k < rs.length) : newK c rs (k + 1) = recF c (newK c rs k) rs[k] := by
  unfold newK
  rw [List.take_succ_eq_append_getElem hk, List.foldl_append]
  rfl
theorem newK_all (c : CfgD) (rs : List RecD) : newK c rs rs.length = newF c rs := by
  unfold newK newF
  rw [List.take_length]
theorem info_split : (Try.prog.info? 106).map (fun i => (i.zero, i.size, i.bytes)) = some (some (.agg #[.int .i64 0, .int .i64 0, .int .i64 0, .bool false, .int .i64 0, .slice none 0 0]), 6, 64) := by kernel_rfl
theorem sp_zero (n : Nat) : spCells (List.replicate n ⟨zeroS, .slice none 0 0⟩) = zcells (.agg #[.int .i64 0, .int .i64 0, .int .i64 0, .bool false, .int .i64 0, .slice none 0 0]) n := by
  unfold spCells zcells
  rw [List.map_replicate]
  rfl
theorem ma_new (w9 : World) (gM gS gT : Nat) (F ok : Nat → Prop) (c : CfgD) (h : CfH) (hm : CfgMay c)
    (hb : w9.heap[gM]? = some (.cells (maCells c h gS gT (m0 c)).toArray 96 (0, 0)))
    (hr : w9.heap[gS]? = some (.cells (zcells (.agg #[.int .i64 0, .int .i64 0, .int .i64 0, .bool false, .int .i64 0, .slice none 0 0]) c.job.splits.length).toArray 106 (0, 0)))
    (ht : TallyR 129 w9 0 gT [0, 0, 0, 0, 0, 0, 0, 0]) (hj : JobR w9 c.job h ok) (hok : ∀ k, ok k → F k ∧ k ≠ gM ∧ k ≠ gS ∧ k ≠ gT)
    (fM : F gM) (fS : F gS) (fT : F gT) (n1 : gM ≠ gS) (n2 : gM ≠ gT) (n3 : gS ≠ gT) (hF : ∀ k, F k → k < w9.heap.size) : MaR w9 gM F c (m0 c) :=
  ⟨gS, gT, h, List.replicate c.job.splits.length ⟨zeroS, .slice none 0 0⟩, _, ok, {
    blk := hb
    row := by rw [sp_zero]; exact hr
    tal := ht
    sp := by rw [List.map_replicate]; rfl
    cfg := hj
    cnt := fun z hz hw => by rw [List.eq_of_mem_replicate hz] at hw; cases hw
    okF := hok
    fM := fM
    fS := fS
    fT := fT
    neS := n1
    neT := n2
    neU := n3
    flt := hF
    len := List.length_replicate ..
    rd := rfl
    may := hm }⟩
theorem JobR.below {w w' : World} {j : JobD} {h : CfH} {ok : Nat → Prop} (hj : JobR w j h ok) (hb : Below w.heap.size w w') : JobR w' j h ok := hj.step (fun k _ hk => hb.block k hk)
theorem tally0 {w w' : World} {base g : Nat} {C : List Int} (h : TallyR 129 w base g C) (hb : Below w.heap.size w w') : TallyR 129 w' 0 g C := ⟨Nat.zero_le _, (h.below hb).blk, h.len, h.rng⟩
theorem mNew_no (c : CfgD) (h : CfH) (rs : List RecD) (AR : Option Addr) (cR : Nat) (w : World) (hj : JobH w c.job h) (hm : ¬ CfgMay c) :
    Calls Try.prog 12 #[.agg #[.slice h.A1 c.job.splits.length h.c1, .int .i64 c.job.parts, .slice h.A2 c.job.map.length h.c2, .slice h.A3 c.job.combine.length h.c3, .slice h.A4 c.job.reduce.length h.c4, .int .i64 c.job.chunk, .int .i64 c.job.window, .int .i64 c.job.fuel, .slice h.A5 c.job.marks.length h.c5, .int .i64 c.workers, .int .i64 c.tries, .int .i64 c.timeout], .slice AR rs.length cR] w fun e w' => e = .returned (.tuple #[.pointer none, .int .i64 2]) ∧ Below w.heap.size w w' := by
  obtain ⟨g, hg⟩ : ∃ g, g = w.heap.size := ⟨_, rfl⟩
  obtain ⟨w0, hw0⟩ : ∃ w0, w0 = w.alloc (.cells #[.slice h.A1 c.job.splits.length h.c1, .int .i64 c.job.parts, .slice h.A2 c.job.map.length h.c2, .slice h.A3 c.job.combine.length h.c3, .slice h.A4 c.job.reduce.length h.c4, .int .i64 c.job.chunk, .int .i64 c.job.window, .int .i64 c.job.fuel, .slice h.A5 c.job.marks.length h.c5, .int .i64 c.workers, .int .i64 c.tries, .int .i64 c.timeout] 28) := ⟨_, rfl⟩
  have hb0 : Below w.heap.size w w0 := by rw [hw0]; exact (Below.refl _ _).alloc (Nat.le_refl _) _
  have hg0 : w0.heap[g]? = some (.cells ([.slice h.A1 c.job.splits.length h.c1, .int .i64 c.job.parts, .slice h.A2 c.job.map.length h.c2, .slice h.A3 c.job.combine.length h.c3, .slice h.A4 c.job.reduce.length h.c4, .int .i64 c.job.chunk, .int .i64 c.job.window, .int .i64 c.job.fuel, .slice h.A5 c.job.marks.length h.c5, .int .i64 c.workers, .int .i64 c.tries, .int .i64 c.timeout] : List Value).toArray 28 (0, 0)) := by rw [hw0, hg]; exact alloc_at w _
  have HM := Aside0.mk (cfgMay c.job c.workers c.tries c.timeout h.A1 h.A2 h.A3 h.A4 h.A5 h.c1 h.c2 h.c3 h.c4 h.c5 w0 (JobH.below hj hb0) false (by simpa using hm))
  have huc := Try.underlying28
  have huj := Try.underlying26
  have HG := Aside0.mk hg
  have HB0 := Aside0.mk hb0
  have HW0 := Aside0.mk hw0
  have f0 : w0.cell? ⟨g, 0, none⟩ = some (.slice h.A1 c.job.splits.length h.c1) := cell_of_blk hg0
  have f1 : w0.cell? ⟨g, 1, none⟩ = some (.int .i64 c.job.parts) := cell_of_blk hg0
  have f2 : w0.cell? ⟨g, 2, none⟩ = some (.slice h.A2 c.job.map.length h.c2) := cell_of_blk hg0
  have f3 : w0.cell? ⟨g, 3, none⟩ = some (.slice h.A3 c.job.combine.length h.c3) := cell_of_blk hg0
  have f4 : w0.cell? ⟨g, 4, none⟩ = some (.slice h.A4 c.job.reduce.length h.c4) := cell_of_blk hg0
  have f5 : w0.cell? ⟨g, 5, none⟩ = some (.int .i64 c.job.chunk) := cell_of_blk hg0
  have f6 : w0.cell? ⟨g, 6, none⟩ = some (.int .i64 c.job.window) := cell_of_blk hg0
  have f7 : w0.cell? ⟨g, 7, none⟩ = some (.int .i64 c.job.fuel) := cell_of_blk hg0
  have f8 : w0.cell? ⟨g, 8, none⟩ = some (.slice h.A5 c.job.marks.length h.c5) := cell_of_blk hg0
  have f9 : w0.cell? ⟨g, 9, none⟩ = some (.int .i64 c.workers) := cell_of_blk hg0
  have f10 : w0.cell? ⟨g, 10, none⟩ = some (.int .i64 c.tries) := cell_of_blk hg0
  have f11 : w0.cell? ⟨g, 11, none⟩ = some (.int .i64 c.timeout) := cell_of_blk hg0
  clear hg hw0 hb0 hg0 hj hm
  go_enter Try.func12, Try.ntmps12
  go_upto_region 1 with (fail)
  rw [show w.alloc (.cells #[.slice h.A1 c.job.splits.length h.c1, .int .i64 c.job.parts, .slice h.A2 c.job.map.length h.c2, .slice h.A3 c.job.combine.length h.c3, .slice h.A4 c.job.reduce.length h.c4, .int .i64 c.job.chunk, .int .i64 c.job.window, .int .i64 c.job.fuel, .slice h.A5 c.job.marks.length h.c5, .int .i64 c.workers, .int .i64 c.tries, .int .i64 c.timeout] 28) = w0 from HW0.out.symm, ← HG.out]
  go_wp2_with fail
  refine HM.out.mono ?_
  rintro e w1 ⟨rfl, hb1⟩
  have HB1 := Aside0.mk (below_then HB0.out HB0.out.size hb1)
  clear hb1
  go_wp2_with fail
  go_ret2
  exact ⟨rfl, HB1.out⟩
theorem both_ {P G : Prop} (h : Aside0 P → G) (p : P) : G := h ⟨p⟩
set_option maxHeartbeats 12800000 in
theorem mNew (c : CfgD) (h : CfH) (rs : List RecD) (AR : Option Addr) (cR : Nat) (w : World) (hj : JobH w c.job h) (hm : CfgMay c) (hr : Kd.C kRec w AR rs.length rs) :
    Calls Try.prog 12 #[.agg #[.slice h.A1 c.job.splits.length h.c1, .int .i64 c.job.parts, .slice h.A2 c.job.map.length h.c2, .slice h.A3 c.job.combine.length h.c3, .slice h.A4 c.job.reduce.length h.c4, .int .i64 c.job.chunk, .int .i64 c.job.window, .int .i64 c.job.fuel, .slice h.A5 c.job.marks.length h.c5, .int .i64 c.workers, .int .i64 c.tries, .int .i64 c.timeout], .slice AR rs.length cR] w fun e w' => ∃ gM F, e = .returned (.tuple #[.pointer (some ⟨gM, 0, none⟩), .int .i64 0]) ∧ MaR w' gM F c (newF c rs) ∧ (∀ i, F i → w.heap.size ≤ i) ∧ Below w.heap.size w w' := by
  obtain ⟨A1, A2, A3, A4, A5, c1, c2, c3, c4, c5⟩ := h
  dsimp only
  obtain ⟨g, hg⟩ : ∃ g, g = w.heap.size := ⟨_, rfl⟩
  obtain ⟨ns, hns⟩ : ∃ n, n = c.job.splits.length := ⟨_, rfl⟩
  obtain ⟨n2, hn2⟩ : ∃ n, n = c.job.map.length := ⟨_, rfl⟩
  obtain ⟨n3, hn3⟩ : ∃ n, n = c.job.combine.length := ⟨_, rfl⟩
  obtain ⟨n4, hn4⟩ : ∃ n, n = c.job.reduce.length := ⟨_, rfl⟩
  obtain ⟨n5, hn5⟩ : ∃ n, n = c.job.marks.length := ⟨_, rfl⟩
  obtain ⟨nr, hnr⟩ : ∃ n, n = rs.length := ⟨_, rfl⟩
  have hmr := Kd.C_max hr
  rw [← hnr] at hmr
  have hns6 : ns ≤ 6 := by have := hm.job.splits.2; omega
  obtain ⟨w0, hw0⟩ : ∃ w0, w0 = w.alloc (.cells #[.slice A1 ns c1, .int .i64 c.job.parts, .slice A2 n2 c2, .slice A3 n3 c3, .slice A4 n4 c4, .int .i64 c.job.chunk, .int .i64 c.job.window, .int .i64 c.job.fuel, .slice A5 n5 c5, .int .i64 c.workers, .int .i64 c.tries, .int .i64 c.timeout] 28) := ⟨_, rfl⟩
  have hb0 : Below w.heap.size w w0 := by rw [hw0]; exact (Below.refl _ _).alloc (Nat.le_refl _) _
  have hg0 : w0.heap[g]? = some (.cells ([.slice A1 ns c1, .int .i64 c.job.parts, .slice A2 n2 c2, .slice A3 n3 c3, .slice A4 n4 c4, .int .i64 c.job.chunk, .int .i64 c.job.window, .int .i64 c.job.fuel, .slice A5 n5 c5, .int .i64 c.workers, .int .i64 c.tries, .int .i64 c.timeout] : List Value).toArray 28 (0, 0)) := by rw [hw0, hg]; exact alloc_at w _
  have hcm := cfgMay c.job c.workers c.tries c.timeout A1 A2 A3 A4 A5 c1 c2 c3 c4 c5 w0 (JobH.below hj hb0) true (by simpa using hm)
  have HJ := Aside0.mk hj
  have HMY := Aside0.mk hm
  have HRC := Aside0.mk hr
  rw [← hns, ← hn2, ← hn3, ← hn4, ← hn5] at hcm
  have HM := Aside0.mk hcm
  have huc := Try.underlying28
  have huj := Try.underlying26
  have HG := Aside0.mk hg
  have HB0 := Aside0.mk hb0
  have HG0 := Aside0.mk hg0
  have HW0 := Aside0.mk hw0
  have HNS := Aside0.mk hns
  have HN2 := Aside0.mk hn2
  have HN3 := Aside0.mk hn3
  have HN4 := Aside0.mk hn4
  have HN5 := Aside0.mk hn5
  have HNR := Aside0.mk hnr
  have f0 : w0.cell? ⟨g, 0, none⟩ = some (.slice A1 ns c1) := cell_of_blk hg0
  have f1 : w0.cell? ⟨g, 1, none⟩ = some (.int .i64 c.job.parts) := cell_of_blk hg0
  have f2 : w0.cell? ⟨g, 2, none⟩ = some (.slice A2 n2 c2) := cell_of_blk hg0
  have f3 : w0.cell? ⟨g, 3, none⟩ = some (.slice A3 n3 c3) := cell_of_blk hg0
  have f4 : w0.cell? ⟨g, 4, none⟩ = some (.slice A4 n4 c4) := cell_of_blk hg0
  have f5 : w0.cell? ⟨g, 5, none⟩ = some (.int .i64 c.job.chunk) := cell_of_blk hg0
  have f6 : w0.cell? ⟨g, 6, none⟩ = some (.int .i64 c.job.window) := cell_of_blk hg0
  have f7 : w0.cell? ⟨g, 7, none⟩ = some (.int .i64 c.job.fuel) := cell_of_blk hg0
  have f8 : w0.cell? ⟨g, 8, none⟩ = some (.slice A5 n5 c5) := cell_of_blk hg0
  have f9 : w0.cell? ⟨g, 9, none⟩ = some (.int .i64 c.workers) := cell_of_blk hg0
  have f10 : w0.cell? ⟨g, 10, none⟩ = some (.int .i64 c.tries) := cell_of_blk hg0
  have f11 : w0.cell? ⟨g, 11, none⟩ = some (.int .i64 c.timeout) := cell_of_blk hg0
  rw [← hns, ← hn2, ← hn3, ← hn4, ← hn5, ← hnr]
  clear hg hw0 hb0 hg0 hj hm hr hns hn2 hn3 hn4 hn5 hnr hcm
  go_enter Try.func12, Try.ntmps12
  go_upto_region 1 with (fail)
  rw [show w.alloc (.cells #[.slice A1 ns c1, .int .i64 c.job.parts, .slice A2 n2 c2, .slice A3 n3 c3, .slice A4 n4 c4, .int .i64 c.job.chunk, .int .i64 c.job.window, .int .i64 c.job.fuel, .slice A5 n5 c5, .int .i64 c.workers, .int .i64 c.tries, .int .i64 c.timeout] 28) = w0 from HW0.out.symm, ← HG.out]
  go_wp2_with fail
  refine HM.out.mono ?_
  rintro e w1 ⟨rfl, hb1⟩
  have HB1 := Aside0.mk hb1
  have HG1 := Aside0.mk ((hb1.block g (blk_lt' HG0.out)).trans HG0.out)
  have hh0 : HeldN w1 w1 := Below.refl _ _
  have hhd : ∀ w', HeldN w1 w' → HeldN w1 w'.drew := fun w' h => h.then_ (below_drew w')
  have HK0 : Aside0 (∀ w', HeldN w1 w' → (w'.cell? ⟨g, 0, none⟩ = some (.slice A1 ns c1) ∧ w'.cell? ⟨g, 1, none⟩ = some (.int .i64 c.job.parts) ∧ w'.cell? ⟨g, 2, none⟩ = some (.slice A2 n2 c2) ∧ w'.cell? ⟨g, 3, none⟩ = some (.slice A3 n3 c3) ∧ w'.cell? ⟨g, 4, none⟩ = some (.slice A4 n4 c4) ∧ w'.cell? ⟨g, 5, none⟩ = some (.int .i64 c.job.chunk) ∧ w'.cell? ⟨g, 6, none⟩ = some (.int .i64 c.job.window) ∧ w'.cell? ⟨g, 7, none⟩ = some (.int .i64 c.job.fuel) ∧ w'.cell? ⟨g, 8, none⟩ = some (.slice A5 n5 c5) ∧ w'.cell? ⟨g, 9, none⟩ = some (.int .i64 c.workers) ∧ w'.cell? ⟨g, 10, none⟩ = some (.int .i64 c.tries) ∧ w'.cell? ⟨g, 11, none⟩ = some (.int .i64 c.timeout))) := ⟨fun w' hw => by
    have h1 := (hw.block g (blk_lt' HG1.out)).trans HG1.out
    exact ⟨cell_of_blk h1, cell_of_blk h1, cell_of_blk h1, cell_of_blk h1, cell_of_blk h1, cell_of_blk h1, cell_of_blk h1, cell_of_blk h1, cell_of_blk h1, cell_of_blk h1, cell_of_blk h1, cell_of_blk h1⟩⟩
  have HMK : Aside0 (∀ w', (Instr.makeSlice 92 (.int .i64 ns) (.int .i64 ns)).run Try.prog w' = .ok (.slice (some ⟨w'.heap.size, 0, none⟩) ns ns) (w'.alloc (.cells (zcells (.agg #[.int .i64 0, .int .i64 0, .int .i64 0, .bool false, .int .i64 0, .slice none 0 0]) ns).toArray 106))) := ⟨fun w' => by
    obtain ⟨v, w'', hrun, rfl, rfl⟩ := make_runs Try.prog w' 92 106 _ 6 64 Try.underlying92 info_split rfl (by decide) .i64 .i64 (ns : Int) (ns : Int) ns ns rfl rfl (Nat.le_refl _) (by omega) (by omega)
    exact hrun⟩
  have HOWN : Aside0 (∀ w', HeldN w1 w' → Calls Try.prog 41 #[.agg #[.slice A1 ns c1, .int .i64 c.job.parts, .slice A2 n2 c2, .slice A3 n3 c3, .slice A4 n4 c4, .int .i64 c.job.chunk, .int .i64 c.job.window, .int .i64 c.job.fuel, .slice A5 n5 c5, .int .i64 c.workers, .int .i64 c.tries, .int .i64 c.timeout]] w' fun e w'' => ∃ B1 B2 B3 B4 B5 d1 d2 d3 d4 d5, e = .returned (.agg #[.slice B1 ns d1, .int .i64 c.job.parts, .slice B2 n2 d2, .slice B3 n3 d3, .slice B4 n4 d4, .int .i64 c.job.chunk, .int .i64 c.job.window, .int .i64 c.job.fuel, .slice B5 n5 d5, .int .i64 c.workers, .int .i64 c.tries, .int .i64 c.timeout]) ∧ HeldN w1 w'' ∧ Aside0 (HeldN w' w'' ∧ JobR w'' c.job ⟨B1, B2, B3, B4, B5, d1, d2, d3, d4, d5⟩ (fun i => w'.heap.size ≤ i ∧ i < w''.heap.size))) := ⟨fun w' hw => by
    have hb' : Below w.heap.size w w' := below_then (below_then HB0.out HB0.out.size HB1.out) (Nat.le_trans HB0.out.size HB1.out.size) hw
    have h1 := jobOwn c ⟨A1, A2, A3, A4, A5, c1, c2, c3, c4, c5⟩ w' (JobH.below HJ.out hb') HMY.out
    dsimp only at h1
    rw [← HNS.out, ← HN2.out, ← HN3.out, ← HN4.out, ← HN5.out] at h1
    refine h1.mono ?_
    rintro e w'' ⟨⟨B1, B2, B3, B4, B5, d1, d2, d3, d4, d5⟩, rfl, hR, hb⟩
    exact ⟨B1, B2, B3, B4, B5, d1, d2, d3, d4, d5, rfl, hw.then_ hb, ⟨hb, hR⟩⟩⟩
  have HNEW : Aside0 (∀ w', HeldN w1 w' → Calls Try.prog 42 #[] w' fun e w'' => ∃ gT, e = .returned (.pointer (some ⟨gT, 0, none⟩)) ∧ HeldN w1 w'' ∧ Aside0 (gT = w'.heap.size ∧ HeldN w' w'' ∧ TallyR 129 w'' w'.heap.size gT [0, 0, 0, 0, 0, 0, 0, 0])) := ⟨fun w' hw => by
    refine (tNew w').mono ?_
    rintro e w'' ⟨rfl, hT, hb⟩
    exact ⟨_, rfl, hw.then_ hb, ⟨rfl, hb, hT⟩⟩⟩
  have hmk := HMK.out
  clear hb1 f0 f1 f2 f3 f4 f5 f6 f7 f8 f9 f10 f11
  go_upto_region 3 with (fail)
  apply both_
  case h =>
    intro hp
    go_region_held_law (fun w' => (w'.cell? ⟨g, 0, none⟩ = some (.slice A1 ns c1) ∧ w'.cell? ⟨g, 1, none⟩ = some (.int .i64 c.job.parts) ∧ w'.cell? ⟨g, 2, none⟩ = some (.slice A2 n2 c2) ∧ w'.cell? ⟨g, 3, none⟩ = some (.slice A3 n3 c3) ∧ w'.cell? ⟨g, 4, none⟩ = some (.slice A4 n4 c4) ∧ w'.cell? ⟨g, 5, none⟩ = some (.int .i64 c.job.chunk) ∧ w'.cell? ⟨g, 6, none⟩ = some (.int .i64 c.job.window) ∧ w'.cell? ⟨g, 7, none⟩ = some (.int .i64 c.job.fuel) ∧ w'.cell? ⟨g, 8, none⟩ = some (.slice A5 n5 c5) ∧ w'.cell? ⟨g, 9, none⟩ = some (.int .i64 c.workers) ∧ w'.cell? ⟨g, 10, none⟩ = some (.int .i64 c.tries) ∧ w'.cell? ⟨g, 11, none⟩ = some (.int .i64 c.timeout))) (first | assumption | exact HK0.out _ (by first | assumption | exact hhd _ hh0 | exact hhd _ (by assumption) | exact HeldN.then_ (hhd _ hh0) ((Below.refl _ _).alloc (Nat.le_refl _) _) | exact HeldN.then_ (by assumption) ((Below.refl _ _).alloc (Nat.le_refl _) _) | exact HeldN.then_ (HeldN.then_ (by assumption) ((Below.refl _ _).alloc (Nat.le_refl _) _)) ((Below.refl _ _).alloc (Nat.le_refl _) _)))
      (first
        | (go_at_call 41; ((with_reducible refine (HOWN.out _ (by first | assumption | exact hhd _ hh0 | exact HeldN.then_ (hhd _ hh0) ((Below.refl _ _).alloc (Nat.le_refl _) _) | exact HeldN.then_ (by assumption) ((Below.refl _ _).alloc (Nat.le_refl _) _))).mono ?_); rintro e w5 ⟨B1, B2, B3, B4, B5, d1, d2, d3, d4, d5, rfl, hH5, hR5⟩))
        | (go_at_call 42; ((with_reducible refine (HNEW.out _ (by first | assumption | exact hhd _ hh0 | exact HeldN.then_ (hhd _ hh0) ((Below.refl _ _).alloc (Nat.le_refl _) _) | exact HeldN.then_ (by assumption) ((Below.refl _ _).alloc (Nat.le_refl _) _))).mono ?_); rintro e w6 ⟨gT, rfl, hH6, hR6⟩)))
    · have hwz : (w5.alloc (.cells (zcells (.agg #[.int .i64 0, .int .i64 0, .int .i64 0, .bool false, .int .i64 0, .slice none 0 0]) ns).toArray 106)).heap.size = w5.heap.size + 1 := by simp
      have hg1 : g < w1.heap.size := blk_lt' HG1.out
      have e5 := hR5.out.1.size
      have e6 := hR6.out.2.1.size
      have eT := hR6.out.1
      have lT := hR6.out.2.2.lt
      have e1 := hH5.size
      have edr : w1.drew.heap.size = w1.heap.size := rfl
      have hbz : HeldN (w5.alloc (.cells (zcells (.agg #[.int .i64 0, .int .i64 0, .int .i64 0, .bool false, .int .i64 0, .slice none 0 0]) ns).toArray 106)) (w6.alloc (.cells #[.slice B1 ns d1, .int .i64 c.job.parts, .slice B2 n2 d2, .slice B3 n3 d3, .slice B4 n4 d4, .int .i64 c.job.chunk, .int .i64 c.job.window, .int .i64 c.job.fuel, .slice B5 n5 d5, .int .i64 c.workers, .int .i64 c.tries, .int .i64 c.timeout, .int .i64 0, .slice (some ⟨w5.heap.size, 0, none⟩) ns ns, .bool false, .bool false, .bool false, .bool false, .int .i64 0, .int .i64 0, .int .i64 0, .pointer (some ⟨gT, 0, none⟩)] 96)) := HeldN.then_ hR6.out.2.1 ((Below.refl _ _).alloc (Nat.le_refl _) _)
      have hb5 : HeldN w5 (w6.alloc (.cells #[.slice B1 ns d1, .int .i64 c.job.parts, .slice B2 n2 d2, .slice B3 n3 d3, .slice B4 n4 d4, .int .i64 c.job.chunk, .int .i64 c.job.window, .int .i64 c.job.fuel, .slice B5 n5 d5, .int .i64 c.workers, .int .i64 c.tries, .int .i64 c.timeout, .int .i64 0, .slice (some ⟨w5.heap.size, 0, none⟩) ns ns, .bool false, .bool false, .bool false, .bool false, .int .i64 0, .int .i64 0, .int .i64 0, .pointer (some ⟨gT, 0, none⟩)] 96)) := HeldN.then_ (HeldN.then_ ((Below.refl _ _).alloc (Nat.le_refl _) _) hR6.out.2.1) ((Below.refl _ _).alloc (Nat.le_refl _) _)
      have hb6 : HeldN w6 (w6.alloc (.cells #[.slice B1 ns d1, .int .i64 c.job.parts, .slice B2 n2 d2, .slice B3 n3 d3, .slice B4 n4 d4, .int .i64 c.job.chunk, .int .i64 c.job.window, .int .i64 c.job.fuel, .slice B5 n5 d5, .int .i64 c.workers, .int .i64 c.tries, .int .i64 c.timeout, .int .i64 0, .slice (some ⟨w5.heap.size, 0, none⟩) ns ns, .bool false, .bool false, .bool false, .bool false, .int .i64 0, .int .i64 0, .int .i64 0, .pointer (some ⟨gT, 0, none⟩)] 96)) := ((Below.refl _ _).alloc (Nat.le_refl _) _)
      have h69 := hb6.size
      have HMA : Aside0 (MaR (w6.alloc (.cells #[.slice B1 ns d1, .int .i64 c.job.parts, .slice B2 n2 d2, .slice B3 n3 d3, .slice B4 n4 d4, .int .i64 c.job.chunk, .int .i64 c.job.window, .int .i64 c.job.fuel, .slice B5 n5 d5, .int .i64 c.workers, .int .i64 c.tries, .int .i64 c.timeout, .int .i64 0, .slice (some ⟨w5.heap.size, 0, none⟩) ns ns, .bool false, .bool false, .bool false, .bool false, .int .i64 0, .int .i64 0, .int .i64 0, .pointer (some ⟨gT, 0, none⟩)] 96)) (w6.heap.size) (fun i => g < i ∧ i < (w6.alloc (.cells #[.slice B1 ns d1, .int .i64 c.job.parts, .slice B2 n2 d2, .slice B3 n3 d3, .slice B4 n4 d4, .int .i64 c.job.chunk, .int .i64 c.job.window, .int .i64 c.job.fuel, .slice B5 n5 d5, .int .i64 c.workers, .int .i64 c.tries, .int .i64 c.timeout, .int .i64 0, .slice (some ⟨w5.heap.size, 0, none⟩) ns ns, .bool false, .bool false, .bool false, .bool false, .int .i64 0, .int .i64 0, .int .i64 0, .pointer (some ⟨gT, 0, none⟩)] 96)).heap.size) c (m0 c) ∧ HeldN w1 (w6.alloc (.cells #[.slice B1 ns d1, .int .i64 c.job.parts, .slice B2 n2 d2, .slice B3 n3 d3, .slice B4 n4 d4, .int .i64 c.job.chunk, .int .i64 c.job.window, .int .i64 c.job.fuel, .slice B5 n5 d5, .int .i64 c.workers, .int .i64 c.tries, .int .i64 c.timeout, .int .i64 0, .slice (some ⟨w5.heap.size, 0, none⟩) ns ns, .bool false, .bool false, .bool false, .bool false, .int .i64 0, .int .i64 0, .int .i64 0, .pointer (some ⟨gT, 0, none⟩)] 96))) := ⟨by
        have h9 : (w6.alloc (.cells #[.slice B1 ns d1, .int .i64 c.job.parts, .slice B2 n2 d2, .slice B3 n3 d3, .slice B4 n4 d4, .int .i64 c.job.chunk, .int .i64 c.job.window, .int .i64 c.job.fuel, .slice B5 n5 d5, .int .i64 c.workers, .int .i64 c.tries, .int .i64 c.timeout, .int .i64 0, .slice (some ⟨w5.heap.size, 0, none⟩) ns ns, .bool false, .bool false, .bool false, .bool false, .int .i64 0, .int .i64 0, .int .i64 0, .pointer (some ⟨gT, 0, none⟩)] 96)).heap[w6.heap.size]? = some (.cells ([.slice B1 ns d1, .int .i64 c.job.parts, .slice B2 n2 d2, .slice B3 n3 d3, .slice B4 n4 d4, .int .i64 c.job.chunk, .int .i64 c.job.window, .int .i64 c.job.fuel, .slice B5 n5 d5, .int .i64 c.workers, .int .i64 c.tries, .int .i64 c.timeout, .int .i64 0, .slice (some ⟨w5.heap.size, 0, none⟩) ns ns, .bool false, .bool false, .bool false, .bool false, .int .i64 0, .int .i64 0, .int .i64 0, .pointer (some ⟨gT, 0, none⟩)] : List Value).toArray 96 (0, 0)) := (alloc_at w6 _)
        have l9 : (w6.heap.size) < (w6.alloc (.cells #[.slice B1 ns d1, .int .i64 c.job.parts, .slice B2 n2 d2, .slice B3 n3 d3, .slice B4 n4 d4, .int .i64 c.job.chunk, .int .i64 c.job.window, .int .i64 c.job.fuel, .slice B5 n5 d5, .int .i64 c.workers, .int .i64 c.tries, .int .i64 c.timeout, .int .i64 0, .slice (some ⟨w5.heap.size, 0, none⟩) ns ns, .bool false, .bool false, .bool false, .bool false, .int .i64 0, .int .i64 0, .int .i64 0, .pointer (some ⟨gT, 0, none⟩)] 96)).heap.size := blk_lt' h9
        refine ⟨ma_new (w6.alloc (.cells #[.slice B1 ns d1, .int .i64 c.job.parts, .slice B2 n2 d2, .slice B3 n3 d3, .slice B4 n4 d4, .int .i64 c.job.chunk, .int .i64 c.job.window, .int .i64 c.job.fuel, .slice B5 n5 d5, .int .i64 c.workers, .int .i64 c.tries, .int .i64 c.timeout, .int .i64 0, .slice (some ⟨w5.heap.size, 0, none⟩) ns ns, .bool false, .bool false, .bool false, .bool false, .int .i64 0, .int .i64 0, .int .i64 0, .pointer (some ⟨gT, 0, none⟩)] 96)) (w6.heap.size) (w5.heap.size) gT (fun i => g < i ∧ i < (w6.alloc (.cells #[.slice B1 ns d1, .int .i64 c.job.parts, .slice B2 n2 d2, .slice B3 n3 d3, .slice B4 n4 d4, .int .i64 c.job.chunk, .int .i64 c.job.window, .int .i64 c.job.fuel, .slice B5 n5 d5, .int .i64 c.workers, .int .i64 c.tries, .int .i64 c.timeout, .int .i64 0, .slice (some ⟨w5.heap.size, 0, none⟩) ns ns, .bool false, .bool false, .bool false, .bool false, .int .i64 0, .int .i64 0, .int .i64 0, .pointer (some ⟨gT, 0, none⟩)] 96)).heap.size) _ c ⟨B1, B2, B3, B4, B5, d1, d2, d3, d4, d5⟩ HMY.out ?_ ?_ (tally0 hR6.out.2.2 hb6) (hR5.out.2.below hb5) (fun i hi => ?_) ⟨by omega, l9⟩ ⟨by omega, by omega⟩ ⟨by omega, by omega⟩ (by omega) (by omega) (by omega) (fun i hi => hi.2), hH6.then_ hb6⟩
        · refine h9.trans ?_
          unfold maCells
          dsimp only
          rw [← HNS.out, ← HN2.out, ← HN3.out, ← HN4.out, ← HN5.out]
          rfl
        · have h8 := (hbz.block (w5.heap.size) (blk_lt' (alloc_at w5 _))).trans (alloc_at w5 _)
          rw [← HNS.out]
          exact h8
        · have h1 := hi.1
          have h2 := hi.2
          exact ⟨⟨by omega, by omega⟩, by omega, by omega, by omega⟩⟩
      clear hwz hg1 e5 e6 eT lT e1 edr hbz hb5 hb6 h69 hR5 hR6 hH5 hH6
      rename_i hX
      clear hX
      obtain ⟨w9, hw9⟩ : ∃ w9, w9 = w6.alloc (.cells #[.slice B1 ns d1, .int .i64 c.job.parts, .slice B2 n2 d2, .slice B3 n3 d3, .slice B4 n4 d4, .int .i64 c.job.chunk, .int .i64 c.job.window, .int .i64 c.job.fuel, .slice B5 n5 d5, .int .i64 c.workers, .int .i64 c.tries, .int .i64 c.timeout, .int .i64 0, .slice (some ⟨w5.heap.size, 0, none⟩) ns ns, .bool false, .bool false, .bool false, .bool false, .int .i64 0, .int .i64 0, .int .i64 0, .pointer (some ⟨gT, 0, none⟩)] 96) := ⟨_, rfl⟩
      rw [← hw9] at HMA ⊢
      clear hw9
      obtain ⟨gS, hgS⟩ : ∃ gS, gS = w5.heap.size := ⟨_, rfl⟩
      obtain ⟨gM, hgM⟩ : ∃ gM, gM = w6.heap.size := ⟨_, rfl⟩
      rw [← hgM] at HMA
      rw [← hgM, ← hgS]
      clear hgS hgM
      revert HMA
      revert w9
      revert gM
      revert gS
      revert gT
      revert B1
      revert B2
      revert B3
      revert B4
      revert B5
      revert d1
      revert d2
      revert d3
      revert d4
      revert d5
      exact hp.out
    · have hwz : (w6.alloc (.cells (zcells (.agg #[.int .i64 0, .int .i64 0, .int .i64 0, .bool false, .int .i64 0, .slice none 0 0]) ns).toArray 106)).heap.size = w6.heap.size + 1 := by simp
      have hg1 : g < w1.heap.size := blk_lt' HG1.out
      have e5 := hR5.out.1.size
      have e6 := hR6.out.2.1.size
      have eT := hR6.out.1
      have lT := hR6.out.2.2.lt
      have e1 := hH5.size
      have edr : w1.drew.heap.size = w1.heap.size := rfl
      have hbz : HeldN (w6.alloc (.cells (zcells (.agg #[.int .i64 0, .int .i64 0, .int .i64 0, .bool false, .int .i64 0, .slice none 0 0]) ns).toArray 106)) ((w6.alloc (.cells (zcells (.agg #[.int .i64 0, .int .i64 0, .int .i64 0, .bool false, .int .i64 0, .slice none 0 0]) ns).toArray 106)).alloc (.cells #[.slice B1 ns d1, .int .i64 c.job.parts, .slice B2 n2 d2, .slice B3 n3 d3, .slice B4 n4 d4, .int .i64 c.job.chunk, .int .i64 c.job.window, .int .i64 c.job.fuel, .slice B5 n5 d5, .int .i64 c.workers, .int .i64 c.tries, .int .i64 c.timeout, .int .i64 0, .slice (some ⟨w6.heap.size, 0, none⟩) ns ns, .bool false, .bool false, .bool false, .bool false, .int .i64 0, .int .i64 0, .int .i64 0, .pointer (some ⟨gT, 0, none⟩)] 96)) := ((Below.refl _ _).alloc (Nat.le_refl _) _)
      have hb5 : HeldN w5 ((w6.alloc (.cells (zcells (.agg #[.int .i64 0, .int .i64 0, .int .i64 0, .bool false, .int .i64 0, .slice none 0 0]) ns).toArray 106)).alloc (.cells #[.slice B1 ns d1, .int .i64 c.job.parts, .slice B2 n2 d2, .slice B3 n3 d3, .slice B4 n4 d4, .int .i64 c.job.chunk, .int .i64 c.job.window, .int .i64 c.job.fuel, .slice B5 n5 d5, .int .i64 c.workers, .int .i64 c.tries, .int .i64 c.timeout, .int .i64 0, .slice (some ⟨w6.heap.size, 0, none⟩) ns ns, .bool false, .bool false, .bool false, .bool false, .int .i64 0, .int .i64 0, .int .i64 0, .pointer (some ⟨gT, 0, none⟩)] 96)) := HeldN.then_ (HeldN.then_ hR6.out.2.1 ((Below.refl _ _).alloc (Nat.le_refl _) _)) ((Below.refl _ _).alloc (Nat.le_refl _) _)
      have hb6 : HeldN w6 ((w6.alloc (.cells (zcells (.agg #[.int .i64 0, .int .i64 0, .int .i64 0, .bool false, .int .i64 0, .slice none 0 0]) ns).toArray 106)).alloc (.cells #[.slice B1 ns d1, .int .i64 c.job.parts, .slice B2 n2 d2, .slice B3 n3 d3, .slice B4 n4 d4, .int .i64 c.job.chunk, .int .i64 c.job.window, .int .i64 c.job.fuel, .slice B5 n5 d5, .int .i64 c.workers, .int .i64 c.tries, .int .i64 c.timeout, .int .i64 0, .slice (some ⟨w6.heap.size, 0, none⟩) ns ns, .bool false, .bool false, .bool false, .bool false, .int .i64 0, .int .i64 0, .int .i64 0, .pointer (some ⟨gT, 0, none⟩)] 96)) := HeldN.then_ ((Below.refl _ _).alloc (Nat.le_refl _) _) ((Below.refl _ _).alloc (Nat.le_refl _) _)
      have h69 := hb6.size
      have HMA : Aside0 (MaR ((w6.alloc (.cells (zcells (.agg #[.int .i64 0, .int .i64 0, .int .i64 0, .bool false, .int .i64 0, .slice none 0 0]) ns).toArray 106)).alloc (.cells #[.slice B1 ns d1, .int .i64 c.job.parts, .slice B2 n2 d2, .slice B3 n3 d3, .slice B4 n4 d4, .int .i64 c.job.chunk, .int .i64 c.job.window, .int .i64 c.job.fuel, .slice B5 n5 d5, .int .i64 c.workers, .int .i64 c.tries, .int .i64 c.timeout, .int .i64 0, .slice (some ⟨w6.heap.size, 0, none⟩) ns ns, .bool false, .bool false, .bool false, .bool false, .int .i64 0, .int .i64 0, .int .i64 0, .pointer (some ⟨gT, 0, none⟩)] 96)) (w6.heap.size + 1) (fun i => g < i ∧ i < ((w6.alloc (.cells (zcells (.agg #[.int .i64 0, .int .i64 0, .int .i64 0, .bool false, .int .i64 0, .slice none 0 0]) ns).toArray 106)).alloc (.cells #[.slice B1 ns d1, .int .i64 c.job.parts, .slice B2 n2 d2, .slice B3 n3 d3, .slice B4 n4 d4, .int .i64 c.job.chunk, .int .i64 c.job.window, .int .i64 c.job.fuel, .slice B5 n5 d5, .int .i64 c.workers, .int .i64 c.tries, .int .i64 c.timeout, .int .i64 0, .slice (some ⟨w6.heap.size, 0, none⟩) ns ns, .bool false, .bool false, .bool false, .bool false, .int .i64 0, .int .i64 0, .int .i64 0, .pointer (some ⟨gT, 0, none⟩)] 96)).heap.size) c (m0 c) ∧ HeldN w1 ((w6.alloc (.cells (zcells (.agg #[.int .i64 0, .int .i64 0, .int .i64 0, .bool false, .int .i64 0, .slice none 0 0]) ns).toArray 106)).alloc (.cells #[.slice B1 ns d1, .int .i64 c.job.parts, .slice B2 n2 d2, .slice B3 n3 d3, .slice B4 n4 d4, .int .i64 c.job.chunk, .int .i64 c.job.window, .int .i64 c.job.fuel, .slice B5 n5 d5, .int .i64 c.workers, .int .i64 c.tries, .int .i64 c.timeout, .int .i64 0, .slice (some ⟨w6.heap.size, 0, none⟩) ns ns, .bool false, .bool false, .bool false, .bool false, .int .i64 0, .int .i64 0, .int .i64 0, .pointer (some ⟨gT, 0, none⟩)] 96))) := ⟨by
        have h9 : ((w6.alloc (.cells (zcells (.agg #[.int .i64 0, .int .i64 0, .int .i64 0, .bool false, .int .i64 0, .slice none 0 0]) ns).toArray 106)).alloc (.cells #[.slice B1 ns d1, .int .i64 c.job.parts, .slice B2 n2 d2, .slice B3 n3 d3, .slice B4 n4 d4, .int .i64 c.job.chunk, .int .i64 c.job.window, .int .i64 c.job.fuel, .slice B5 n5 d5, .int .i64 c.workers, .int .i64 c.tries, .int .i64 c.timeout, .int .i64 0, .slice (some ⟨w6.heap.size, 0, none⟩) ns ns, .bool false, .bool false, .bool false, .bool false, .int .i64 0, .int .i64 0, .int .i64 0, .pointer (some ⟨gT, 0, none⟩)] 96)).heap[w6.heap.size + 1]? = some (.cells ([.slice B1 ns d1, .int .i64 c.job.parts, .slice B2 n2 d2, .slice B3 n3 d3, .slice B4 n4 d4, .int .i64 c.job.chunk, .int .i64 c.job.window, .int .i64 c.job.fuel, .slice B5 n5 d5, .int .i64 c.workers, .int .i64 c.tries, .int .i64 c.timeout, .int .i64 0, .slice (some ⟨w6.heap.size, 0, none⟩) ns ns, .bool false, .bool false, .bool false, .bool false, .int .i64 0, .int .i64 0, .int .i64 0, .pointer (some ⟨gT, 0, none⟩)] : List Value).toArray 96 (0, 0)) := (by have := alloc_at (w6.alloc (.cells (zcells (.agg #[.int .i64 0, .int .i64 0, .int .i64 0, .bool false, .int .i64 0, .slice none 0 0]) ns).toArray 106)) ((.cells #[.slice B1 ns d1, .int .i64 c.job.parts, .slice B2 n2 d2, .slice B3 n3 d3, .slice B4 n4 d4, .int .i64 c.job.chunk, .int .i64 c.job.window, .int .i64 c.job.fuel, .slice B5 n5 d5, .int .i64 c.workers, .int .i64 c.tries, .int .i64 c.timeout, .int .i64 0, .slice (some ⟨w6.heap.size, 0, none⟩) ns ns, .bool false, .bool false, .bool false, .bool false, .int .i64 0, .int .i64 0, .int .i64 0, .pointer (some ⟨gT, 0, none⟩)] 96)); simpa using this)
        have l9 : (w6.heap.size + 1) < ((w6.alloc (.cells (zcells (.agg #[.int .i64 0, .int .i64 0, .int .i64 0, .bool false, .int .i64 0, .slice none 0 0]) ns).toArray 106)).alloc (.cells #[.slice B1 ns d1, .int .i64 c.job.parts, .slice B2 n2 d2, .slice B3 n3 d3, .slice B4 n4 d4, .int .i64 c.job.chunk, .int .i64 c.job.window, .int .i64 c.job.fuel, .slice B5 n5 d5, .int .i64 c.workers, .int .i64 c.tries, .int .i64 c.timeout, .int .i64 0, .slice (some ⟨w6.heap.size, 0, none⟩) ns ns, .bool false, .bool false, .bool false, .bool false, .int .i64 0, .int .i64 0, .int .i64 0, .pointer (some ⟨gT, 0, none⟩)] 96)).heap.size := blk_lt' h9
        refine ⟨ma_new ((w6.alloc (.cells (zcells (.agg #[.int .i64 0, .int .i64 0, .int .i64 0, .bool false, .int .i64 0, .slice none 0 0]) ns).toArray 106)).alloc (.cells #[.slice B1 ns d1, .int .i64 c.job.parts, .slice B2 n2 d2, .slice B3 n3 d3, .slice B4 n4 d4, .int .i64 c.job.chunk, .int .i64 c.job.window, .int .i64 c.job.fuel, .slice B5 n5 d5, .int .i64 c.workers, .int .i64 c.tries, .int .i64 c.timeout, .int .i64 0, .slice (some ⟨w6.heap.size, 0, none⟩) ns ns, .bool false, .bool false, .bool false, .bool false, .int .i64 0, .int .i64 0, .int .i64 0, .pointer (some ⟨gT, 0, none⟩)] 96)) (w6.heap.size + 1) (w6.heap.size) gT (fun i => g < i ∧ i < ((w6.alloc (.cells (zcells (.agg #[.int .i64 0, .int .i64 0, .int .i64 0, .bool false, .int .i64 0, .slice none 0 0]) ns).toArray 106)).alloc (.cells #[.slice B1 ns d1, .int .i64 c.job.parts, .slice B2 n2 d2, .slice B3 n3 d3, .slice B4 n4 d4, .int .i64 c.job.chunk, .int .i64 c.job.window, .int .i64 c.job.fuel, .slice B5 n5 d5, .int .i64 c.workers, .int .i64 c.tries, .int .i64 c.timeout, .int .i64 0, .slice (some ⟨w6.heap.size, 0, none⟩) ns ns, .bool false, .bool false, .bool false, .bool false, .int .i64 0, .int .i64 0, .int .i64 0, .pointer (some ⟨gT, 0, none⟩)] 96)).heap.size) _ c ⟨B1, B2, B3, B4, B5, d1, d2, d3, d4, d5⟩ HMY.out ?_ ?_ (tally0 hR6.out.2.2 hb6) (hR5.out.2.below hb5) (fun i hi => ?_) ⟨by omega, l9⟩ ⟨by omega, by omega⟩ ⟨by omega, by omega⟩ (by omega) (by omega) (by omega) (fun i hi => hi.2), hH6.then_ hb6⟩
        · refine h9.trans ?_
          unfold maCells
          dsimp only
          rw [← HNS.out, ← HN2.out, ← HN3.out, ← HN4.out, ← HN5.out]
          rfl
        · have h8 := (hbz.block (w6.heap.size) (blk_lt' (alloc_at w6 _))).trans (alloc_at w6 _)
          rw [← HNS.out]
          exact h8
        · have h1 := hi.1
          have h2 := hi.2
          exact ⟨⟨by omega, by omega⟩, by omega, by omega, by omega⟩⟩
      clear hwz hg1 e5 e6 eT lT e1 edr hbz hb5 hb6 h69 hR5 hR6 hH5 hH6
      rename_i hX
      clear hX
      obtain ⟨w9, hw9⟩ : ∃ w9, w9 = (w6.alloc (.cells (zcells (.agg #[.int .i64 0, .int .i64 0, .int .i64 0, .bool false, .int .i64 0, .slice none 0 0]) ns).toArray 106)).alloc (.cells #[.slice B1 ns d1, .int .i64 c.job.parts, .slice B2 n2 d2, .slice B3 n3 d3, .slice B4 n4 d4, .int .i64 c.job.chunk, .int .i64 c.job.window, .int .i64 c.job.fuel, .slice B5 n5 d5, .int .i64 c.workers, .int .i64 c.tries, .int .i64 c.timeout, .int .i64 0, .slice (some ⟨w6.heap.size, 0, none⟩) ns ns, .bool false, .bool false, .bool false, .bool false, .int .i64 0, .int .i64 0, .int .i64 0, .pointer (some ⟨gT, 0, none⟩)] 96) := ⟨_, rfl⟩
      rw [← hw9] at HMA ⊢
      clear hw9
      obtain ⟨gS, hgS⟩ : ∃ gS, gS = w6.heap.size := ⟨_, rfl⟩
      obtain ⟨gM, hgM⟩ : ∃ gM, gM = w6.heap.size + 1 := ⟨_, rfl⟩
      rw [← hgM] at HMA
      rw [← hgM, ← hgS]
      clear hgS hgM
      revert HMA
      revert w9
      revert gM
      revert gS
      revert gT
      revert B1
      revert B2
      revert B3
      revert B4
      revert B5
      revert d1
      revert d2
      revert d3
      revert d4
      revert d5
      exact hp.out
    · have hwz : (w1.alloc (.cells (zcells (.agg #[.int .i64 0, .int .i64 0, .int .i64 0, .bool false, .int .i64 0, .slice none 0 0]) ns).toArray 106)).drew.heap.size = w1.heap.size + 1 := (by simp : (w1.alloc (.cells (zcells (.agg #[.int .i64 0, .int .i64 0, .int .i64 0, .bool false, .int .i64 0, .slice none 0 0]) ns).toArray 106)).heap.size = w1.heap.size + 1)
      have hg1 : g < w1.heap.size := blk_lt' HG1.out
      have e5 := hR5.out.1.size
      have e6 := hR6.out.2.1.size
      have eT := hR6.out.1
      have lT := hR6.out.2.2.lt
      have e1 := hH5.size
      have edr : w1.drew.heap.size = w1.heap.size := rfl
      have hbz : HeldN ((w1.alloc (.cells (zcells (.agg #[.int .i64 0, .int .i64 0, .int .i64 0, .bool false, .int .i64 0, .slice none 0 0]) ns).toArray 106)).drew) (w6.alloc (.cells #[.slice B1 ns d1, .int .i64 c.job.parts, .slice B2 n2 d2, .slice B3 n3 d3, .slice B4 n4 d4, .int .i64 c.job.chunk, .int .i64 c.job.window, .int .i64 c.job.fuel, .slice B5 n5 d5, .int .i64 c.workers, .int .i64 c.tries, .int .i64 c.timeout, .int .i64 0, .slice (some ⟨w1.heap.size, 0, none⟩) ns ns, .bool false, .bool false, .bool false, .bool false, .int .i64 0, .int .i64 0, .int .i64 0, .pointer (some ⟨gT, 0, none⟩)] 96)) := HeldN.then_ (HeldN.then_ hR5.out.1 hR6.out.2.1) ((Below.refl _ _).alloc (Nat.le_refl _) _)
      have hb5 : HeldN w5 (w6.alloc (.cells #[.slice B1 ns d1, .int .i64 c.job.parts, .slice B2 n2 d2, .slice B3 n3 d3, .slice B4 n4 d4, .int .i64 c.job.chunk, .int .i64 c.job.window, .int .i64 c.job.fuel, .slice B5 n5 d5, .int .i64 c.workers, .int .i64 c.tries, .int .i64 c.timeout, .int .i64 0, .slice (some ⟨w1.heap.size, 0, none⟩) ns ns, .bool false, .bool false, .bool false, .bool false, .int .i64 0, .int .i64 0, .int .i64 0, .pointer (some ⟨gT, 0, none⟩)] 96)) := HeldN.then_ hR6.out.2.1 ((Below.refl _ _).alloc (Nat.le_refl _) _)
      have hb6 : HeldN w6 (w6.alloc (.cells #[.slice B1 ns d1, .int .i64 c.job.parts, .slice B2 n2 d2, .slice B3 n3 d3, .slice B4 n4 d4, .int .i64 c.job.chunk, .int .i64 c.job.window, .int .i64 c.job.fuel, .slice B5 n5 d5, .int .i64 c.workers, .int .i64 c.tries, .int .i64 c.timeout, .int .i64 0, .slice (some ⟨w1.heap.size, 0, none⟩) ns ns, .bool false, .bool false, .bool false, .bool false, .int .i64 0, .int .i64 0, .int .i64 0, .pointer (some ⟨gT, 0, none⟩)] 96)) := ((Below.refl _ _).alloc (Nat.le_refl _) _)
      have h69 := hb6.size
      have HMA : Aside0 (MaR (w6.alloc (.cells #[.slice B1 ns d1, .int .i64 c.job.parts, .slice B2 n2 d2, .slice B3 n3 d3, .slice B4 n4 d4, .int .i64 c.job.chunk, .int .i64 c.job.window, .int .i64 c.job.fuel, .slice B5 n5 d5, .int .i64 c.workers, .int .i64 c.tries, .int .i64 c.timeout, .int .i64 0, .slice (some ⟨w1.heap.size, 0, none⟩) ns ns, .bool false, .bool false, .bool false, .bool false, .int .i64 0, .int .i64 0, .int .i64 0, .pointer (some ⟨gT, 0, none⟩)] 96)) (w6.heap.size) (fun i => g < i ∧ i < (w6.alloc (.cells #[.slice B1 ns d1, .int .i64 c.job.parts, .slice B2 n2 d2, .slice B3 n3 d3, .slice B4 n4 d4, .int .i64 c.job.chunk, .int .i64 c.job.window, .int .i64 c.job.fuel, .slice B5 n5 d5, .int .i64 c.workers, .int .i64 c.tries, .int .i64 c.timeout, .int .i64 0, .slice (some ⟨w1.heap.size, 0, none⟩) ns ns, .bool false, .bool false, .bool false, .bool false, .int .i64 0, .int .i64 0, .int .i64 0, .pointer (some ⟨gT, 0, none⟩)] 96)).heap.size) c (m0 c) ∧ HeldN w1 (w6.alloc (.cells #[.slice B1 ns d1, .int .i64 c.job.parts, .slice B2 n2 d2, .slice B3 n3 d3, .slice B4 n4 d4, .int .i64 c.job.chunk, .int .i64 c.job.window, .int .i64 c.job.fuel, .slice B5 n5 d5, .int .i64 c.workers, .int .i64 c.tries, .int .i64 c.timeout, .int .i64 0, .slice (some ⟨w1.heap.size, 0, none⟩) ns ns, .bool false, .bool false, .bool false, .bool false, .int .i64 0, .int .i64 0, .int .i64 0, .pointer (some ⟨gT, 0, none⟩)] 96))) := ⟨by
        have h9 : (w6.alloc (.cells #[.slice B1 ns d1, .int .i64 c.job.parts, .slice B2 n2 d2, .slice B3 n3 d3, .slice B4 n4 d4, .int .i64 c.job.chunk, .int .i64 c.job.window, .int .i64 c.job.fuel, .slice B5 n5 d5, .int .i64 c.workers, .int .i64 c.tries, .int .i64 c.timeout, .int .i64 0, .slice (some ⟨w1.heap.size, 0, none⟩) ns ns, .bool false, .bool false, .bool false, .bool false, .int .i64 0, .int .i64 0, .int .i64 0, .pointer (some ⟨gT, 0, none⟩)] 96)).heap[w6.heap.size]? = some (.cells ([.slice B1 ns d1, .int .i64 c.job.parts, .slice B2 n2 d2, .slice B3 n3 d3, .slice B4 n4 d4, .int .i64 c.job.chunk, .int .i64 c.job.window, .int .i64 c.job.fuel, .slice B5 n5 d5, .int .i64 c.workers, .int .i64 c.tries, .int .i64 c.timeout, .int .i64 0, .slice (some ⟨w1.heap.size, 0, none⟩) ns ns, .bool false, .bool false, .bool false, .bool false, .int .i64 0, .int .i64 0, .int .i64 0, .pointer (some ⟨gT, 0, none⟩)] : List Value).toArray 96 (0, 0)) := (alloc_at w6 _)
        have l9 : (w6.heap.size) < (w6.alloc (.cells #[.slice B1 ns d1, .int .i64 c.job.parts, .slice B2 n2 d2, .slice B3 n3 d3, .slice B4 n4 d4, .int .i64 c.job.chunk, .int .i64 c.job.window, .int .i64 c.job.fuel, .slice B5 n5 d5, .int .i64 c.workers, .int .i64 c.tries, .int .i64 c.timeout, .int .i64 0, .slice (some ⟨w1.heap.size, 0, none⟩) ns ns, .bool false, .bool false, .bool false, .bool false, .int .i64 0, .int .i64 0, .int .i64 0, .pointer (some ⟨gT, 0, none⟩)] 96)).heap.size := blk_lt' h9
        refine ⟨ma_new (w6.alloc (.cells #[.slice B1 ns d1, .int .i64 c.job.parts, .slice B2 n2 d2, .slice B3 n3 d3, .slice B4 n4 d4, .int .i64 c.job.chunk, .int .i64 c.job.window, .int .i64 c.job.fuel, .slice B5 n5 d5, .int .i64 c.workers, .int .i64 c.tries, .int .i64 c.timeout, .int .i64 0, .slice (some ⟨w1.heap.size, 0, none⟩) ns ns, .bool false, .bool false, .bool false, .bool false, .int .i64 0, .int .i64 0, .int .i64 0, .pointer (some ⟨gT, 0, none⟩)] 96)) (w6.heap.size) (w1.heap.size) gT (fun i => g < i ∧ i < (w6.alloc (.cells #[.slice B1 ns d1, .int .i64 c.job.parts, .slice B2 n2 d2, .slice B3 n3 d3, .slice B4 n4 d4, .int .i64 c.job.chunk, .int .i64 c.job.window, .int .i64 c.job.fuel, .slice B5 n5 d5, .int .i64 c.workers, .int .i64 c.tries, .int .i64 c.timeout, .int .i64 0, .slice (some ⟨w1.heap.size, 0, none⟩) ns ns, .bool false, .bool false, .bool false, .bool false, .int .i64 0, .int .i64 0, .int .i64 0, .pointer (some ⟨gT, 0, none⟩)] 96)).heap.size) _ c ⟨B1, B2, B3, B4, B5, d1, d2, d3, d4, d5⟩ HMY.out ?_ ?_ (tally0 hR6.out.2.2 hb6) (hR5.out.2.below hb5) (fun i hi => ?_) ⟨by omega, l9⟩ ⟨by omega, by omega⟩ ⟨by omega, by omega⟩ (by omega) (by omega) (by omega) (fun i hi => hi.2), hH6.then_ hb6⟩
        · refine h9.trans ?_
          unfold maCells
          dsimp only
          rw [← HNS.out, ← HN2.out, ← HN3.out, ← HN4.out, ← HN5.out]
          rfl
        · have h8 := (hbz.block (w1.heap.size) (blk_lt' (alloc_at w1 _))).trans (alloc_at w1 _)
          rw [← HNS.out]
          exact h8
        · have h1 := hi.1
          have h2 := hi.2
          exact ⟨⟨by omega, by omega⟩, by omega, by omega, by omega⟩⟩
      clear hwz hg1 e5 e6 eT lT e1 edr hbz hb5 hb6 h69 hR5 hR6 hH5 hH6
      rename_i hX
      clear hX
      obtain ⟨w9, hw9⟩ : ∃ w9, w9 = w6.alloc (.cells #[.slice B1 ns d1, .int .i64 c.job.parts, .slice B2 n2 d2, .slice B3 n3 d3, .slice B4 n4 d4, .int .i64 c.job.chunk, .int .i64 c.job.window, .int .i64 c.job.fuel, .slice B5 n5 d5, .int .i64 c.workers, .int .i64 c.tries, .int .i64 c.timeout, .int .i64 0, .slice (some ⟨w1.heap.size, 0, none⟩) ns ns, .bool false, .bool false, .bool false, .bool false, .int .i64 0, .int .i64 0, .int .i64 0, .pointer (some ⟨gT, 0, none⟩)] 96) := ⟨_, rfl⟩
      rw [← hw9] at HMA ⊢
      clear hw9
      obtain ⟨gS, hgS⟩ : ∃ gS, gS = w1.heap.size := ⟨_, rfl⟩
      obtain ⟨gM, hgM⟩ : ∃ gM, gM = w6.heap.size := ⟨_, rfl⟩
      rw [← hgM] at HMA
      rw [← hgM, ← hgS]
      clear hgS hgM
      revert HMA
      revert w9
      revert gM
      revert gS
      revert gT
      revert B1
      revert B2
      revert B3
      revert B4
      revert B5
      revert d1
      revert d2
      revert d3
      revert d4
      revert d5
      exact hp.out
  case p =>
    intro d5 d4 d3 d2 d1 B5 B4 B3 B2 B1 gT gS gM w9 HMA
    have HG9 : Aside0 (w9.heap[g]? = some (.cells ([.slice A1 ns c1, .int .i64 c.job.parts, .slice A2 n2 c2, .slice A3 n3 c3, .slice A4 n4 c4, .int .i64 c.job.chunk, .int .i64 c.job.window, .int .i64 c.job.fuel, .slice A5 n5 c5, .int .i64 c.workers, .int .i64 c.tries, .int .i64 c.timeout] : List Value).toArray 28 (0, 0))) := ⟨(HMA.out.2.block g (blk_lt' HG1.out)).trans HG1.out⟩
    have HB9 : Aside0 (Below w.heap.size w w9) := ⟨below_then (below_then HB0.out HB0.out.size HB1.out) (Nat.le_trans HB0.out.size HB1.out.size) HMA.out.2⟩
    have hur := Try.underlying90
    clear hmk hh0 hhd HK0 HMK HOWN HNEW HM HB0 HG0 HW0 HB1 HG1 HJ huc huj
    go_wp2_with fail
    go_loopg [8, 24, 28, 61, 75] nr (fun kq v8 v24 v28 v61 v75 w' => ∃ (k : Nat), k + kq = nr ∧ v24 = .int .i64 k ∧ Aside0 (∃ F', MaR w' gM F' c (newK c rs k) ∧ ∀ i, F' i → g < i) ∧ Aside0 (Below w.heap.size w w') ∧ Aside0 (w'.heap[g]? = some (.cells ([.slice A1 ns c1, .int .i64 c.job.parts, .slice A2 n2 c2, .slice A3 n3 c3, .slice A4 n4 c4, .int .i64 c.job.chunk, .int .i64 c.job.window, .int .i64 c.job.fuel, .slice A5 n5 c5, .int .i64 c.workers, .int .i64 c.tries, .int .i64 c.timeout] : List Value).toArray 28 (0, 0))))
    case atStart => exact ⟨0, by omega, rfl, ⟨⟨_, HMA.out.1, fun i hi => hi.1⟩⟩, HB9, HG9⟩
    case round =>
      obtain ⟨k, hk, rfl, HMK, HB, HGB⟩ := hrel
      by_cases hlt : k < nr
      · have hltI : (k : Int) < nr := by omega
        have hk0 : (0 : Int) ≤ (k : Int) := by omega
        have hkl : k < rs.length := by rw [← HNR.out]; exact hlt
        obtain ⟨ad, A6, A7, c6, c7, rfl, hRC, hcells⟩ := at_rec (Kd.C_below HRC.out HB.out) k hkl zeroRec
        obtain ⟨b0, b1, b2, b3, b4, b5, b6⟩ := RecAt.of hcells
        obtain ⟨x, hx⟩ : ∃ x, x = rs[k] := ⟨_, rfl⟩
        rw [← hx] at b0 b1 b2 b3 b4 b5 b6 hRC
        obtain ⟨ls, hls⟩ : ∃ n, n = x.set.length := ⟨_, rfl⟩
        obtain ⟨lp, hlp⟩ : ∃ n, n = x.prs.length := ⟨_, rfl⟩
        rw [← hls] at b5
        rw [← hlp] at b6
        obtain ⟨gc, hgc⟩ : ∃ gc, gc = wr.heap.size := ⟨_, rfl⟩
        obtain ⟨w2, hw2⟩ : ∃ w2, w2 = wr.alloc (.cells #[.int .i64 x.k, .int .i64 x.p, .int .i64 x.s, .int .i64 x.a, .int .i64 x.r, .slice A6 ls c6, .slice A7 lp c7] 90) := ⟨_, rfl⟩
        have hb2 : Below wr.heap.size wr w2 := by rw [hw2]; exact (Below.refl _ _).alloc (Nat.le_refl _) _
        have hgc2 : w2.heap[gc]? = some (.cells ([.int .i64 x.k, .int .i64 x.p, .int .i64 x.s, .int .i64 x.a, .int .i64 x.r, .slice A6 ls c6, .slice A7 lp c7] : List Value).toArray 90 (0, 0)) := by rw [hw2, hgc]; exact alloc_at wr _
        obtain ⟨F', ⟨gS', gT', h', zs', C', ok', hp⟩, hFF⟩ := HMK.out
        have HQ2 := Aside0.mk (hp.below hb2)
        have HFF := Aside0.mk hFF
        have HB2 : Aside0 (Below w.heap.size w w2) := ⟨below_then HB.out HB.out.size hb2⟩
        have HG2 : Aside0 (w2.heap[g]? = some (.cells ([.slice A1 ns c1, .int .i64 c.job.parts, .slice A2 n2 c2, .slice A3 n3 c3, .slice A4 n4 c4, .int .i64 c.job.chunk, .int .i64 c.job.window, .int .i64 c.job.fuel, .slice A5 n5 c5, .int .i64 c.workers, .int .i64 c.tries, .int .i64 c.timeout] : List Value).toArray 28 (0, 0))) := ⟨(hb2.block g (blk_lt' HGB.out)).trans HGB.out⟩
        have HRC2 : Aside0 (RecC w2 x A6 A7 c6 c7) := ⟨⟨Kd.C_below hRC.s hb2, Kd.C_below hRC.p hb2, hRC.ls, hRC.lp⟩⟩
        have HKL := Aside0.mk hkl
        have HX : Aside0 (x = rs[k]'HKL.out) := ⟨hx⟩
        have HLS := Aside0.mk hls
        have HW2 := Aside0.mk hw2
        have HGC := Aside0.mk hgc
        have HGC2 := Aside0.mk hgc2
        clear hp hFF hcells hRC hx hls hlp hgc hw2 hb2 hgc2 HMK hkl
        go_upto_region 7 with (fail)
        rw [show wr.alloc (.cells #[.int .i64 x.k, .int .i64 x.p, .int .i64 x.s, .int .i64 x.a, .int .i64 x.r, .slice A6 ls c6, .slice A7 lp c7] 90) = w2 from HW2.out.symm, ← HGC.out]
        clear b0 b1 b2 b3 b4 b5 b6
        have b0 : w2.cell? ⟨gc, 0, none⟩ = some (.int .i64 x.k) := cell_of_blk HGC2.out
        have b2 : w2.cell? ⟨gc, 2, none⟩ = some (.int .i64 x.s) := cell_of_blk HGC2.out
        have b3 : w2.cell? ⟨gc, 3, none⟩ = some (.int .i64 x.a) := cell_of_blk HGC2.out
        have b4 : w2.cell? ⟨gc, 4, none⟩ = some (.int .i64 x.r) := cell_of_blk HGC2.out
        have b5 : w2.cell? ⟨gc, 5, none⟩ = some (.slice A6 ls c6) := cell_of_blk HGC2.out
        have e1 : w2.cell? ⟨g, 1, none⟩ = some (.int .i64 c.job.parts) := cell_of_blk HG2.out
        have e10 : w2.cell? ⟨g, 10, none⟩ = some (.int .i64 c.tries) := cell_of_blk HG2.out
        have bst := HQ2.out.c_st
        by_cases hk1 : x.k = 1
        · have HK := Aside0.mk hk1
          rw [hk1] at b0
          clear hk1
          by_cases hl : (ls : Int) = c.job.parts
          · by_cases ha0 : x.a < 1
            · have hb0 : decide (1 ≤ x.a) = false := decide_eq_false (by omega)
              have HST : Aside0 (newK c rs (k + 1) = newK c rs k) := ⟨by rw [newK_succ c rs k HKL.out, ← HX.out]; unfold recF; rw [if_pos HK.out, if_neg (fun h => by have := h.2.1; omega)]⟩
              go_wp2_with fail
              go_roundg (nr - (k + 1))
              case measure => omega
              case rel => exact ⟨k + 1, by omega, by go_num, ⟨by rw [HST.out]; exact ⟨F', ⟨_, _, _, _, _, _, HQ2.out⟩, HFF.out⟩⟩, HB2, HG2⟩
            · by_cases ha1 : x.a ≤ c.tries
              · have hb0 : decide (1 ≤ x.a) = true := decide_eq_true (by omega)
                have HCOND : Aside0 ((x.set.length : Int) = c.job.parts ∧ 1 ≤ x.a ∧ x.a ≤ c.tries) := ⟨⟨by rw [← HLS.out]; exact hl, by omega, by omega⟩⟩
                cases ho : openN (newK c rs k) x.s with
                | none =>
                  have HST : Aside0 (newK c rs (k + 1) = newK c rs k) := ⟨by rw [newK_succ c rs k HKL.out, ← HX.out]; unfold recF; rw [if_pos HK.out, if_pos HCOND.out, ho]⟩
                  have HWN := Aside0.mk (mWins_no HQ2.out x.s x.a (.slice A6 ls c6) ho)
                  clear ho
                  go_wp2_with fail
                  refine HWN.out.mono ?_
                  rintro e w2 ⟨rfl, rfl⟩
                  go_wp2_with fail
                  go_roundg (nr - (k + 1))
                  case measure => omega
                  case rel => exact ⟨k + 1, by omega, by go_num, ⟨by rw [HST.out]; exact ⟨F', ⟨_, _, _, _, _, _, HQ2.out⟩, HFF.out⟩⟩, HB2, HG2⟩
                | some j =>
                  have HST : Aside0 (newK c rs (k + 1) = winK (newK c rs k) j x.a x.set) := ⟨by rw [newK_succ c rs k HKL.out, ← HX.out]; unfold recF; rw [if_pos HK.out, if_pos HCOND.out, ho]⟩
                  have hwn := mWins HQ2.out x.s x.a j A6 c6 x.set ho HRC2.out.s (by have := HCOND.out.1; have := HQ2.out.may.job.parts.2; omega) HCOND.out.1
                  rw [← HLS.out] at hwn
                  have HWN := Aside0.mk hwn
                  clear ho hwn
                  go_wp2_with fail
                  refine HWN.out.mono ?_
                  rintro e w5 ⟨rfl, ⟨F2, zs2, ok2, hp2, hF2⟩, hc5⟩
                  have hszw := HB2.out.size
                  have hg5 := hc5.blk HG2.out (fun hi => by have := HFF.out g hi; omega)
                  have HM5 : Aside0 (∃ F', MaR w5 gM F' c (newK c rs (k + 1)) ∧ ∀ i, F' i → g < i) := ⟨by rw [HST.out]; exact ⟨F2, ⟨_, _, _, _, _, _, hp2⟩, fun i hi => by rcases hF2 i hi with h | h; exact HFF.out i h; exact Nat.lt_of_lt_of_le (blk_lt' HG2.out) h⟩⟩
                  have HB5 : Aside0 (Below w.heap.size w w5) := ⟨Below.ch HB2.out hc5 HB2.out.size (fun i hi => by have := HFF.out i hi; have := HG.out; omega)⟩
                  have HG5 := Aside0.mk hg5
                  clear hp2 hF2 hc5 hg5 hszw
                  go_wp2_with fail
                  go_roundg (nr - (k + 1))
                  case measure => omega
                  case rel => exact ⟨k + 1, by omega, by go_num, HM5, HB5, HG5⟩
              · have hb0 : decide (1 ≤ x.a) = true := decide_eq_true (by omega)
                have HST : Aside0 (newK c rs (k + 1) = newK c rs k) := ⟨by rw [newK_succ c rs k HKL.out, ← HX.out]; unfold recF; rw [if_pos HK.out, if_neg (fun h => by have := h.2.2; omega)]⟩
                go_wp2_with fail
                go_roundg (nr - (k + 1))
                case measure => omega
                case rel => exact ⟨k + 1, by omega, by go_num, ⟨by rw [HST.out]; exact ⟨F', ⟨_, _, _, _, _, _, HQ2.out⟩, HFF.out⟩⟩, HB2, HG2⟩
          · have hlb : ((ls : Int) == c.job.parts) = false := by simpa using hl
            rw [HLS.out] at hl
            have HST : Aside0 (newK c rs (k + 1) = newK c rs k) := ⟨by rw [newK_succ c rs k HKL.out, ← HX.out]; unfold recF; rw [if_pos HK.out, if_neg (fun h => hl h.1)]⟩
            go_wp2_with fail
            go_roundg (nr - (k + 1))
            case measure => omega
            case rel => exact ⟨k + 1, by omega, by go_num, ⟨by rw [HST.out]; exact ⟨F', ⟨_, _, _, _, _, _, HQ2.out⟩, HFF.out⟩⟩, HB2, HG2⟩
        · have hkb1 : (x.k == 1) = false := by simpa using hk1
          have HK1 := Aside0.mk hk1
          clear hk1
          by_cases hs0 : (newK c rs k).st = 0
          · have HS0 := Aside0.mk hs0
            rw [hs0] at bst
            clear hs0
            by_cases hk2 : x.k = 2
            · have HK := Aside0.mk hk2
              rw [hk2] at b0
              clear hk2 hkb1
              have HST : Aside0 (newK c rs (k + 1) = { newK c rs k with st := 1 }) := ⟨by rw [newK_succ c rs k HKL.out, ← HX.out]; unfold recF; rw [if_neg (by rw [HK.out]; decide), if_pos HK.out, if_pos HS0.out]⟩
              have z18 := HQ2.out.frM 18
              have HFIN : Aside0 (∀ w5, w5 = w2.setCell ⟨gM, 18, none⟩ (.int .i64 1) → (∃ F', MaR w5 gM F' c (newK c rs (k + 1)) ∧ ∀ i, F' i → g < i) ∧ Below w.heap.size w w5 ∧ w5.heap[g]? = some (.cells ([.slice A1 ns c1, .int .i64 c.job.parts, .slice A2 n2 c2, .slice A3 n3 c3, .slice A4 n4 c4, .int .i64 c.job.chunk, .int .i64 c.job.window, .int .i64 c.job.fuel, .slice A5 n5 c5, .int .i64 c.workers, .int .i64 c.tries, .int .i64 c.timeout] : List Value).toArray 28 (0, 0))) := ⟨fun w5 h5 => by
                have hp := HQ2.out.putM 18 (.int .i64 1) { newK c rs k with st := 1 } rfl rfl HQ2.out.rd
                have hc : Ch w2 w5 F' := by rw [h5]; exact HQ2.out.chM 18 _
                rw [← h5] at hp
                refine ⟨by rw [HST.out]; exact ⟨F', ⟨_, _, _, _, _, _, hp⟩, HFF.out⟩, Below.ch HB2.out hc HB2.out.size (fun i hi => by have := HFF.out i hi; have := HG.out; omega), hc.blk HG2.out (fun hi => by have := HFF.out g hi; omega)⟩⟩
              go_wp2_with fail
              go_roundg (nr - (k + 1))
              case measure => omega
              case rel => exact ⟨k + 1, by omega, by go_num, ⟨(HFIN.out _ rfl).1⟩, ⟨(HFIN.out _ rfl).2.1⟩, ⟨(HFIN.out _ rfl).2.2⟩⟩
            · have hkb2 : (x.k == 2) = false := by simpa using hk2
              have HK2 := Aside0.mk hk2
              clear hk2
              by_cases hk3 : x.k = 3
              · have HK := Aside0.mk hk3
                rw [hk3] at b0
                clear hk3 hkb1 hkb2
                have HST : Aside0 (newK c rs (k + 1) = endS (newK c rs k) 2 x.r) := ⟨by rw [newK_succ c rs k HKL.out, ← HX.out]; unfold recF; rw [if_neg (by rw [HK.out]; decide), if_neg (by rw [HK.out]; decide), if_pos HK.out, if_pos HS0.out]⟩
                have z18 := HQ2.out.frM 18
                have z19 := HQ2.out.frM 19
                have hc19 := HQ2.out.c_why
                have d4 : w2.drew.cell? ⟨gc, 4, none⟩ = some (.int .i64 x.r) := b4
                go_upto_region 12 with (fail)
                go_region
                all_goals
                  obtain ⟨w5, hw5⟩ : ∃ w5, w5 = ((w2.setCell ⟨gM, 18, none⟩ (.int .i64 2)).setCell ⟨gM, 19, none⟩ (.int .i64 x.r)).drew := ⟨_, rfl⟩
                  rw [← hw5]
                  have HW5 := Aside0.mk hw5
                  clear hw5
                  have HFIN : Aside0 ((∃ F', MaR w5 gM F' c (newK c rs (k + 1)) ∧ ∀ i, F' i → g < i) ∧ Below w.heap.size w w5 ∧ w5.heap[g]? = some (.cells ([.slice A1 ns c1, .int .i64 c.job.parts, .slice A2 n2 c2, .slice A3 n3 c3, .slice A4 n4 c4, .int .i64 c.job.chunk, .int .i64 c.job.window, .int .i64 c.job.fuel, .slice A5 n5 c5, .int .i64 c.workers, .int .i64 c.tries, .int .i64 c.timeout] : List Value).toArray 28 (0, 0))) := ⟨by
                    have q2 := HQ2.out
                    have hp := ((q2.putM 18 (.int .i64 2) { newK c rs k with st := 2 } rfl rfl q2.rd).putM 19 (.int .i64 x.r) (endS (newK c rs k) 2 x.r) rfl rfl q2.rd).below (below_drew _)
                    have hc : Ch w2 w5 F' := by rw [HW5.out]; exact (((Ch.refl w2 F').setCell _ _ q2.fM).setCell _ _ q2.fM).trans (Ch.of_below (S := F') (below_drew _)) (fun _ _ h => h)
                    rw [HW5.out]
                    rw [← HW5.out]
                    refine ⟨by rw [HST.out, HW5.out]; exact ⟨F', ⟨_, _, _, _, _, _, hp⟩, HFF.out⟩, Below.ch HB2.out hc HB2.out.size (fun i hi => by have := HFF.out i hi; have := HG.out; omega), hc.blk HG2.out (fun hi => by have := HFF.out g hi; omega)⟩⟩
                  clear d4 z18 z19 hc19
                  go_wp2_with fail
                  go_roundg (nr - (k + 1))
                  case measure => omega
                  case rel => exact ⟨k + 1, by omega, by go_num, ⟨HFIN.out.1⟩, ⟨HFIN.out.2.1⟩, ⟨HFIN.out.2.2⟩⟩
              · have hkb3 : (x.k == 3) = false := by simpa using hk3
                have HK3 := Aside0.mk hk3
                clear hk3
                have HST : Aside0 (newK c rs (k + 1) = newK c rs k) := ⟨by rw [newK_succ c rs k HKL.out, ← HX.out]; unfold recF; rw [if_neg HK1.out, if_neg HK2.out, if_neg HK3.out]⟩
                go_wp2_with fail
                go_roundg (nr - (k + 1))
                case measure => omega
                case rel => exact ⟨k + 1, by omega, by go_num, ⟨by rw [HST.out]; exact ⟨F', ⟨_, _, _, _, _, _, HQ2.out⟩, HFF.out⟩⟩, HB2, HG2⟩
          · have HS0 := Aside0.mk hs0
            have hsb : ((newK c rs k).st == 0) = false := by simpa using hs0
            clear hs0
            by_cases hk2 : x.k = 2
            · have HK := Aside0.mk hk2
              rw [hk2] at b0
              clear hk2 hkb1
              have HST : Aside0 (newK c rs (k + 1) = newK c rs k) := ⟨by rw [newK_succ c rs k HKL.out, ← HX.out]; unfold recF; rw [if_neg (by rw [HK.out]; decide), if_pos HK.out, if_neg HS0.out]⟩
              go_wp2_with fail
              go_roundg (nr - (k + 1))
              case measure => omega
              case rel => exact ⟨k + 1, by omega, by go_num, ⟨by rw [HST.out]; exact ⟨F', ⟨_, _, _, _, _, _, HQ2.out⟩, HFF.out⟩⟩, HB2, HG2⟩
            · have hkb2 : (x.k == 2) = false := by simpa using hk2
              have HK2 := Aside0.mk hk2
              clear hk2
              by_cases hk3 : x.k = 3
              · have HK := Aside0.mk hk3
                rw [hk3] at b0
                clear hk3 hkb1 hkb2
                have HST : Aside0 (newK c rs (k + 1) = newK c rs k) := ⟨by rw [newK_succ c rs k HKL.out, ← HX.out]; unfold recF; rw [if_neg (by rw [HK.out]; decide), if_neg (by rw [HK.out]; decide), if_pos HK.out, if_neg HS0.out]⟩
                go_wp2_with fail
                go_roundg (nr - (k + 1))
                case measure => omega
                case rel => exact ⟨k + 1, by omega, by go_num, ⟨by rw [HST.out]; exact ⟨F', ⟨_, _, _, _, _, _, HQ2.out⟩, HFF.out⟩⟩, HB2, HG2⟩
              · have hkb3 : (x.k == 3) = false := by simpa using hk3
                have HK3 := Aside0.mk hk3
                clear hk3
                have HST : Aside0 (newK c rs (k + 1) = newK c rs k) := ⟨by rw [newK_succ c rs k HKL.out, ← HX.out]; unfold recF; rw [if_neg HK1.out, if_neg HK2.out, if_neg HK3.out]⟩
                go_wp2_with fail
                go_roundg (nr - (k + 1))
                case measure => omega
                case rel => exact ⟨k + 1, by omega, by go_num, ⟨by rw [HST.out]; exact ⟨F', ⟨_, _, _, _, _, _, HQ2.out⟩, HFF.out⟩⟩, HB2, HG2⟩
      · obtain rfl : k = nr := by omega
        obtain ⟨F', hp, hFF⟩ := HMK.out
        have HF : Aside0 (MaR wr gM F' c (newF c rs) ∧ ∀ i, F' i → w.heap.size ≤ i) := ⟨⟨by rw [← newK_all, ← HNR.out]; exact hp, fun i hi => by have := hFF i hi; have := HG.out; omega⟩⟩
        clear hp hFF
        go_wp2_with fail
        go_ret2
        exact ⟨gM, F', rfl, HF.out.1, HF.out.2, HB.out⟩
end Go.Proofs.Ytbnhhlahbhjogaa.K
