/- The statement MasterCommits. WRITTEN BY wip/gen_y25.py. -/
import Derived.Test.YtbnhhlahbhjogaaY24
set_option linter.unusedVariables false
set_option linter.unusedSimpArgs false
set_option maxRecDepth 100000
namespace Go.Proofs.Ytbnhhlahbhjogaa.K
open Go.RowKit Go.Proofs.YtbnhhlahbhjogaaW.PrintWords Go.Proofs.YtbnhhlahbhjogaaW.PrintLast Go.Proofs.YtbnhhlahbhjogaaW.PrintMore Go.Proofs.Ytbnhhlahbhjogaa.U Go.Proofs.Ytbnhhlahbhjogaa.T

def arrC (n : Nat) (l : List Bool) : List Value := (l ++ List.replicate (n - l.length) false).map Value.bool
theorem arr_get (n : Nat) (l : List Bool) (k : Nat) (hk : k < l.length) : (arrC n l)[k]? = some (.bool l[k]) := by
  unfold arrC
  rw [List.getElem?_map, List.getElem?_append_left hk, List.getElem?_eq_getElem hk]
  rfl
theorem arr_set (n : Nat) (l : List Bool) (k : Nat) (hk : k < l.length) : (arrC n l).set k (.bool true) = arrC n (l.set k true) := by
  unfold arrC
  rw [← List.map_set, List.set_append_left _ _ hk, List.length_set]
theorem rep_C (w : World) (np : Nat) (h4 : np ≤ 4) {g : Nat} {t : TypeId} {fr : Nat × Nat} (h : w.heap[g]? = some (.cells (List.replicate np (Value.int .i64 0)).toArray t fr)) : Kd.C kI w (some ⟨g, 0, none⟩) (List.replicate np (0 : Int)).length (List.replicate np (0 : Int)) := by
  refine ⟨rfl, by rw [List.length_replicate]; omega, fun _ => ⟨_, rfl, fun j y hj => ?_⟩⟩
  obtain ⟨hlt, hy⟩ := List.getElem?_eq_some_iff.1 hj
  rw [List.length_replicate] at hlt
  rw [List.getElem_replicate] at hy
  subst hy
  refine ⟨[.int .i64 0], rfl, rfl, fun i u hu => ?_⟩
  have hi : i = 0 ∧ u = .int .i64 0 := by
    cases i with
    | zero => exact ⟨rfl, by simpa using hu.symm⟩
    | succ i => simp at hu
  obtain ⟨rfl, rfl⟩ := hi
  rw [show j * kI.sz + 0 = j from Nat.mul_one j]
  refine cells_of_blk h j _ ?_
  rw [List.getElem?_replicate, if_pos hlt]
theorem one_ (b : Bool) (w : World) : Calls Try.prog 15 #[.bool b] w fun e w' => e = .returned (.int .i64 (if b = true then 1 else 0)) ∧ w' = w := by
  cases b
  all_goals
    go_enter Try.func15, Try.ntmps15
    go_wp2_with fail
    go_ret
    exact ⟨rfl, rfl⟩
set_option maxHeartbeats 12800000 in
theorem masterCommits_in (j : JobD) (wk tr tmo : Int) (A1 A2 A3 A4 A5 : Option Addr) (c1 c2 c3 c4 c5 : Nat) (W : World) (hj : JobC W j A1 A2 A3 A4 A5 c1 c2 c3 c4 c5) (hgs : ∀ l ∈ j.splits, ∀ x ∈ l, GPair x) (AT : Option Addr) (cT : Nat) (ts : List Int) (hts : Kd.C kI W AT ts.length ts) :
    Calls Try.prog 3 #[.agg #[.slice A1 j.splits.length c1, .int .i64 j.parts, .slice A2 j.map.length c2, .slice A3 j.combine.length c3, .slice A4 j.reduce.length c4, .int .i64 j.chunk, .int .i64 j.window, .int .i64 j.fuel, .slice A5 j.marks.length c5, .int .i64 wk, .int .i64 tr, .int .i64 tmo], .slice AT ts.length cT] W fun e w' => e = .returned (.bool true) ∧ Below W.heap.size W w' := by
  obtain ⟨N, hN⟩ : ∃ N, N = j.splits.length := ⟨_, rfl⟩
  obtain ⟨g, hg⟩ : ∃ g, g = W.heap.size := ⟨_, rfl⟩
  have hmx : N ≤ 9223372036854775807 := by rw [hN]; exact Kd.C_max hj.s
  obtain ⟨w0, hw0⟩ : ∃ w0, w0 = W.alloc (.cells #[.slice A1 N c1, .int .i64 j.parts, .slice A2 j.map.length c2, .slice A3 j.combine.length c3, .slice A4 j.reduce.length c4, .int .i64 j.chunk, .int .i64 j.window, .int .i64 j.fuel, .slice A5 j.marks.length c5, .int .i64 wk, .int .i64 tr, .int .i64 tmo] 28) := ⟨_, rfl⟩
  have hb0 : Below W.heap.size W w0 := by rw [hw0]; exact (Below.refl _ _).alloc (Nat.le_refl _) _
  have hg0 : w0.heap[g]? = some (.cells ([.slice A1 N c1, .int .i64 j.parts, .slice A2 j.map.length c2, .slice A3 j.combine.length c3, .slice A4 j.reduce.length c4, .int .i64 j.chunk, .int .i64 j.window, .int .i64 j.fuel, .slice A5 j.marks.length c5, .int .i64 wk, .int .i64 tr, .int .i64 tmo] : List Value).toArray 28 (0, 0)) := by rw [hw0, hg]; exact alloc_at W _
  have hgj := greatJob j A1 A2 A3 A4 A5 c1 c2 c3 c4 c5 w0 (JobC.below hj hb0) hgs
  rw [← hN] at hgj
  have HGJ := Aside0.mk hgj
  have HJ := Aside0.mk hj
  obtain ⟨rc, hrc⟩ := bool_of (CfgMay ⟨j, wk, tr, tmo⟩)
  have HMC : Aside0 (∀ w', Below W.heap.size W w' → Calls Try.prog 10 #[.agg #[.slice A1 N c1, .int .i64 j.parts, .slice A2 j.map.length c2, .slice A3 j.combine.length c3, .slice A4 j.reduce.length c4, .int .i64 j.chunk, .int .i64 j.window, .int .i64 j.fuel, .slice A5 j.marks.length c5, .int .i64 wk, .int .i64 tr, .int .i64 tmo]] w' fun e w'' => e = .returned (.bool rc) ∧ Below w'.heap.size w' w'') := ⟨fun w' hw => by
    have h := cfgMay j wk tr tmo A1 A2 A3 A4 A5 c1 c2 c3 c4 c5 w' (JobC.below HJ.out hw) rc hrc
    rw [← hN] at h
    exact h⟩
  have HRC := Aside0.mk hrc
  have HN := Aside0.mk hN
  have HG := Aside0.mk hg
  have HW0 := Aside0.mk hw0
  have HB0 := Aside0.mk hb0
  have HG0 := Aside0.mk hg0
  have huc := Try.underlying28
  have huj := Try.underlying26
  have hul := Try.underlying51
  have hum := Try.underlying45
  have x0 : w0.cell? ⟨g, 0, none⟩ = some (.slice A1 N c1) := cell_of_blk hg0
  have x1 : w0.cell? ⟨g, 1, none⟩ = some (.int .i64 j.parts) := cell_of_blk hg0
  have x2 : w0.cell? ⟨g, 2, none⟩ = some (.slice A2 j.map.length c2) := cell_of_blk hg0
  have x3 : w0.cell? ⟨g, 3, none⟩ = some (.slice A3 j.combine.length c3) := cell_of_blk hg0
  have x4 : w0.cell? ⟨g, 4, none⟩ = some (.slice A4 j.reduce.length c4) := cell_of_blk hg0
  have x5 : w0.cell? ⟨g, 5, none⟩ = some (.int .i64 j.chunk) := cell_of_blk hg0
  have x6 : w0.cell? ⟨g, 6, none⟩ = some (.int .i64 j.window) := cell_of_blk hg0
  have x7 : w0.cell? ⟨g, 7, none⟩ = some (.int .i64 j.fuel) := cell_of_blk hg0
  have x8 : w0.cell? ⟨g, 8, none⟩ = some (.slice A5 j.marks.length c5) := cell_of_blk hg0
  have x9 : w0.cell? ⟨g, 9, none⟩ = some (.int .i64 wk) := cell_of_blk hg0
  have x10 : w0.cell? ⟨g, 10, none⟩ = some (.int .i64 tr) := cell_of_blk hg0
  have x11 : w0.cell? ⟨g, 11, none⟩ = some (.int .i64 tmo) := cell_of_blk hg0
  rw [← hN]
  clear hj hgs hN hg hw0 hb0 hg0 hgj hrc
  obtain ⟨nt, hnt⟩ : ∃ n, n = ts.length := ⟨_, rfl⟩
  have hmt : nt ≤ 9223372036854775807 := by rw [hnt]; exact Kd.C_max hts
  have HNT := Aside0.mk hnt
  have HTS := Aside0.mk hts
  rw [← hnt]
  clear hnt hts
  go_enter Try.func3, Try.ntmps3
  go_upto_region 1 with (fail)
  rw [show W.alloc (.cells #[.slice A1 N c1, .int .i64 j.parts, .slice A2 j.map.length c2, .slice A3 j.combine.length c3, .slice A4 j.reduce.length c4, .int .i64 j.chunk, .int .i64 j.window, .int .i64 j.fuel, .slice A5 j.marks.length c5, .int .i64 wk, .int .i64 tr, .int .i64 tmo] 28) = w0 from HW0.out.symm, ← HG.out]
  go_wp2_with fail
  refine HGJ.out.mono ?_
  rintro e w1 ⟨⟨r, rfl, -⟩, hb1⟩
  have HG1 := Aside0.mk ((hb1.block g (blk_lt' HG0.out)).trans HG0.out)
  have HB1 := Aside0.mk (below_then HB0.out HB0.out.size hb1)
  clear hb1 HGJ
  clear x0 x1 x2 x3 x4 x5 x6 x7 x8 x9 x10 x11
  have x0 : w1.cell? ⟨g, 0, none⟩ = some (.slice A1 N c1) := cell_of_blk HG1.out
  have x1 : w1.cell? ⟨g, 1, none⟩ = some (.int .i64 j.parts) := cell_of_blk HG1.out
  have x2 : w1.cell? ⟨g, 2, none⟩ = some (.slice A2 j.map.length c2) := cell_of_blk HG1.out
  have x3 : w1.cell? ⟨g, 3, none⟩ = some (.slice A3 j.combine.length c3) := cell_of_blk HG1.out
  have x4 : w1.cell? ⟨g, 4, none⟩ = some (.slice A4 j.reduce.length c4) := cell_of_blk HG1.out
  have x5 : w1.cell? ⟨g, 5, none⟩ = some (.int .i64 j.chunk) := cell_of_blk HG1.out
  have x6 : w1.cell? ⟨g, 6, none⟩ = some (.int .i64 j.window) := cell_of_blk HG1.out
  have x7 : w1.cell? ⟨g, 7, none⟩ = some (.int .i64 j.fuel) := cell_of_blk HG1.out
  have x8 : w1.cell? ⟨g, 8, none⟩ = some (.slice A5 j.marks.length c5) := cell_of_blk HG1.out
  have x9 : w1.cell? ⟨g, 9, none⟩ = some (.int .i64 wk) := cell_of_blk HG1.out
  have x10 : w1.cell? ⟨g, 10, none⟩ = some (.int .i64 tr) := cell_of_blk HG1.out
  have x11 : w1.cell? ⟨g, 11, none⟩ = some (.int .i64 tmo) := cell_of_blk HG1.out
  cases r
  case' true =>
    go_wp2_with fail
    refine (awake22 w1).mono ?_
    rintro e wz ⟨rfl, hbz⟩
    have HBZ := Aside0.mk (below_then HB1.out HB1.out.size hbz)
    clear hbz
    go_wp2_with fail
    go_ret
    exact ⟨rfl, HBZ.out⟩
  go_wp2_with fail
  refine (HMC.out w1 HB1.out).mono ?_
  rintro e w2 ⟨rfl, hb2⟩
  have HG2 := Aside0.mk ((hb2.block g (blk_lt' HG1.out)).trans HG1.out)
  have HB2 := Aside0.mk (below_then HB1.out HB1.out.size hb2)
  clear hb2 HMC
  clear x0 x1 x2 x3 x4 x5 x6 x7 x8 x9 x10 x11
  cases rc
  case' false =>
    go_wp2_with fail
    refine (awake22 w2).mono ?_
    rintro e wz ⟨rfl, hbz⟩
    have HBZ := Aside0.mk (below_then HB2.out HB2.out.size hbz)
    clear hbz
    go_wp2_with fail
    go_ret
    exact ⟨rfl, HBZ.out⟩
  have HMY : Aside0 (CfgMay ⟨j, wk, tr, tmo⟩) := ⟨HRC.out.1 rfl⟩
  obtain ⟨T, rfl⟩ : ∃ T : Nat, tmo = T := ⟨tmo.toNat, by have := HMY.out.timeout.1; dsimp only at this; omega⟩
  obtain ⟨c, hc⟩ : ∃ c : CfgD, c = ⟨j, wk, tr, T⟩ := ⟨_, rfl⟩
  have HNEW : Aside0 (Calls Try.prog 12 #[.agg #[.slice A1 N c1, .int .i64 j.parts, .slice A2 j.map.length c2, .slice A3 j.combine.length c3, .slice A4 j.reduce.length c4, .int .i64 j.chunk, .int .i64 j.window, .int .i64 j.fuel, .slice A5 j.marks.length c5, .int .i64 wk, .int .i64 tr, .int .i64 T], .slice none 0 0] w2 fun e w' => ∃ gM F, e = .returned (.tuple #[.pointer (some ⟨gM, 0, none⟩), .int .i64 0]) ∧ MaR w' gM F c (m0 c) ∧ (∀ i, F i → w2.heap.size ≤ i) ∧ Below w2.heap.size w2 w') := ⟨by
    have h := mNew ⟨j, wk, tr, T⟩ ⟨A1, A2, A3, A4, A5, c1, c2, c3, c4, c5⟩ [] none 0 w2 (JobC.below HJ.out HB2.out) HMY.out (C_zero _ _)
    dsimp only at h
    rw [← HN.out, ← hc] at h
    exact h⟩
  have HC := Aside0.mk hc
  clear hc
  have x0 : w2.cell? ⟨g, 0, none⟩ = some (.slice A1 N c1) := cell_of_blk HG2.out
  have x1 : w2.cell? ⟨g, 1, none⟩ = some (.int .i64 j.parts) := cell_of_blk HG2.out
  have x2 : w2.cell? ⟨g, 2, none⟩ = some (.slice A2 j.map.length c2) := cell_of_blk HG2.out
  have x3 : w2.cell? ⟨g, 3, none⟩ = some (.slice A3 j.combine.length c3) := cell_of_blk HG2.out
  have x4 : w2.cell? ⟨g, 4, none⟩ = some (.slice A4 j.reduce.length c4) := cell_of_blk HG2.out
  have x5 : w2.cell? ⟨g, 5, none⟩ = some (.int .i64 j.chunk) := cell_of_blk HG2.out
  have x6 : w2.cell? ⟨g, 6, none⟩ = some (.int .i64 j.window) := cell_of_blk HG2.out
  have x7 : w2.cell? ⟨g, 7, none⟩ = some (.int .i64 j.fuel) := cell_of_blk HG2.out
  have x8 : w2.cell? ⟨g, 8, none⟩ = some (.slice A5 j.marks.length c5) := cell_of_blk HG2.out
  have x9 : w2.cell? ⟨g, 9, none⟩ = some (.int .i64 wk) := cell_of_blk HG2.out
  have x10 : w2.cell? ⟨g, 10, none⟩ = some (.int .i64 tr) := cell_of_blk HG2.out
  have x11 : w2.cell? ⟨g, 11, none⟩ = some (.int .i64 T) := cell_of_blk HG2.out
  by_cases hlen : 60 < nt
  case' pos =>
    have hlenI : (60 : Int) < (nt : Int) := by omega
    go_wp2_with fail
    refine (awake22 w2).mono ?_
    rintro e wz ⟨rfl, hbz⟩
    have HBZ := Aside0.mk (below_then HB2.out HB2.out.size hbz)
    clear hbz
    go_wp2_with fail
    go_ret
    exact ⟨rfl, HBZ.out⟩
  have hlenI : ¬ (60 : Int) < (nt : Int) := by omega
  clear hlen
  go_wp2_with fail
  refine HNEW.out.mono ?_
  rintro e w3 ⟨gM, F, rfl, hM3, hF3, hb3⟩
  have HM3 := Aside0.mk hM3
  have HG3 : Aside0 (w3.heap[g]? = some (.cells ([.slice A1 N c1, .int .i64 j.parts, .slice A2 j.map.length c2, .slice A3 j.combine.length c3, .slice A4 j.reduce.length c4, .int .i64 j.chunk, .int .i64 j.window, .int .i64 j.fuel, .slice A5 j.marks.length c5, .int .i64 wk, .int .i64 tr, .int .i64 T] : List Value).toArray 28 (0, 0))) := ⟨(hb3.block g (blk_lt' HG2.out)).trans HG2.out⟩
  have HB3 := Aside0.mk (below_then HB2.out HB2.out.size hb3)
  have HFG : Aside0 (¬ F g) := ⟨fun h => by have := hF3 g h; have := blk_lt' HG2.out; omega⟩
  have HFW : Aside0 (∀ i, F i → W.heap.size ≤ i) := ⟨fun i h => Nat.le_trans HB2.out.size (hF3 i h)⟩
  have HNC : Aside0 (N = c.job.splits.length) := ⟨by rw [HC.out]; exact HN.out⟩
  have HCW : Aside0 (c.workers = wk ∧ c.tries = tr ∧ c.timeout = T ∧ c.job = j) := ⟨by rw [HC.out]; exact ⟨rfl, rfl, rfl, rfl⟩⟩
  clear hM3 hF3 hb3 HNEW HRC HG0 HB0 HW0 HG1 HB1
  clear x0 x1 x2 x3 x4 x5 x6 x7 x8 x9 x10 x11
  obtain ⟨zs, hzs⟩ : ∃ zs : Nat → Array Value, ∀ n, zs n = (List.replicate n (Value.int .i64 0)).toArray := ⟨_, fun _ => rfl⟩
  obtain ⟨np, hnp⟩ : ∃ np : Nat, j.parts = np := ⟨j.parts.toNat, by have := HMY.out.job.parts.1; dsimp only at this; omega⟩
  have hnp4 : np ≤ 4 := by have := HMY.out.job.parts.2; dsimp only at this; omega
  have hnp1 : 1 ≤ np := by have := HMY.out.job.parts.1; dsimp only at this; omega
  have hN1 : 1 ≤ N := by have := HMY.out.job.splits.1; have := HN.out; dsimp only at *; omega
  have hN6 : N ≤ 6 := by have := HMY.out.job.splits.2; have := HN.out; dsimp only at *; omega
  have hmk : ∀ w', (Instr.makeSlice 24 (.int .i64 j.parts) (.int .i64 j.parts)).run Try.prog w' = .ok (.slice (some ⟨w'.heap.size, 0, none⟩) np np) (w'.alloc (.cells (zs np) 3)) := fun w' => by
    obtain ⟨v, w'', hrun, rfl, rfl⟩ := make_runs Try.prog w' 24 3 _ 1 8 Try.underlying24 info_int rfl (by decide) .i64 .i64 j.parts j.parts np np hnp hnp (Nat.le_refl _) (by omega) (by omega)
    rw [zcells_one _ _ rfl, ← hzs np] at hrun
    exact hrun
  have x1 : w3.cell? ⟨g, 1, none⟩ = some (.int .i64 j.parts) := cell_of_blk HG3.out
  obtain ⟨gS, hgS⟩ : ∃ gS, gS = w3.heap.size := ⟨_, rfl⟩
  obtain ⟨gW, hgW⟩ : ∃ gW, gW = w3.heap.size + 1 := ⟨_, rfl⟩
  obtain ⟨gR, hgR⟩ : ∃ gR, gR = w3.heap.size + 1 + 1 := ⟨_, rfl⟩
  obtain ⟨w6, hw6⟩ : ∃ w6, w6 = ((w3.alloc (.cells (zs np) 3)).alloc (.cells #[.bool false, .bool false, .bool false, .bool false, .bool false, .bool false] 36)).alloc (.cells #[.bool false, .bool false, .bool false, .bool false] 37) := ⟨_, rfl⟩
  have hb6 : Below w3.heap.size w3 w6 := by rw [hw6]; exact (((Below.refl _ _).alloc (Nat.le_refl _) _).alloc (by simp) _).alloc (by simp; omega) _
  have hs6 : w6.heap.size = w3.heap.size + 3 := by rw [hw6]; simp
  have hS6 : w6.heap[gS]? = some (.cells (List.replicate np (Value.int .i64 0)).toArray 3 (0, 0)) := by rw [hw6, hgS, ← hzs np]; exact alloc_keeps (alloc_keeps (alloc_at w3 _) _) _
  have hW6 : w6.heap[gW]? = some (.cells (arrC 6 (List.replicate N false)).toArray 36 (0, 0)) := by
    have e : arrC 6 (List.replicate N false) = [.bool false, .bool false, .bool false, .bool false, .bool false, .bool false] := by
      unfold arrC
      rw [List.length_replicate, List.replicate_append_replicate, show N + (6 - N) = 6 from by omega]
      rfl
    rw [e, hw6, hgW]
    refine alloc_keeps ?_ _
    have := alloc_at (w3.alloc (.cells (zs np) 3)) (.cells #[.bool false, .bool false, .bool false, .bool false, .bool false, .bool false] 36)
    simpa using this
  have hR6 : w6.heap[gR]? = some (.cells (arrC 4 (List.replicate np false)).toArray 37 (0, 0)) := by
    have e : arrC 4 (List.replicate np false) = [.bool false, .bool false, .bool false, .bool false] := by
      unfold arrC
      rw [List.length_replicate, List.replicate_append_replicate, show np + (4 - np) = 4 from by omega]
      rfl
    rw [e, hw6, hgR]
    have := alloc_at ((w3.alloc (.cells (zs np) 3)).alloc (.cells #[.bool false, .bool false, .bool false, .bool false, .bool false, .bool false] 36)) (.cells #[.bool false, .bool false, .bool false, .bool false] 37)
    simpa using this
  have hfl := HM3.out.flt
  have HM6 : Aside0 (∃ F', MaR w6 gM F' c (cmS np (List.replicate N false) (List.replicate np false)) ∧ ∀ k, F' k → F k ∨ w6.heap.size ≤ k) := ⟨⟨F, by have h := HM3.out; rw [cm_m0 c np (by rw [HCW.out.2.2.2]; exact hnp) hnp4, ← HNC.out] at h; exact h.below hb6, fun k hk => .inl hk⟩⟩
  have HMEM6 : Aside0 (w6.heap[g]? = some (.cells ([.slice A1 N c1, .int .i64 j.parts, .slice A2 j.map.length c2, .slice A3 j.combine.length c3, .slice A4 j.reduce.length c4, .int .i64 j.chunk, .int .i64 j.window, .int .i64 j.fuel, .slice A5 j.marks.length c5, .int .i64 wk, .int .i64 tr, .int .i64 T] : List Value).toArray 28 (0, 0)) ∧ w6.heap[gS]? = some (.cells (List.replicate np (Value.int .i64 0)).toArray 3 (0, 0)) ∧ w6.heap[gW]? = some (.cells (arrC 6 (List.replicate N false)).toArray 36 (0, 0)) ∧ w6.heap[gR]? = some (.cells (arrC 4 (List.replicate np false)).toArray 37 (0, 0)) ∧ Below W.heap.size W w6 ∧ w6.heap.size ≤ w6.heap.size) := ⟨⟨(hb6.block g (blk_lt' HG3.out)).trans HG3.out, hS6, hW6, hR6, below_then HB3.out HB3.out.size hb6, Nat.le_refl _⟩⟩
  have HOUT : Aside0 (¬ F gS ∧ ¬ F gW ∧ ¬ F gR ∧ g < w6.heap.size ∧ gS < w6.heap.size ∧ gW < w6.heap.size ∧ gR < w6.heap.size ∧ gW ≠ gR ∧ g < gS ∧ gS < gW ∧ gW < gR ∧ W.heap.size ≤ gS) := ⟨by
    have h1 := blk_lt' HG3.out
    have h2 := HB3.out.size
    exact ⟨fun h => by have := hfl _ h; omega, fun h => by have := hfl _ h; omega, fun h => by have := hfl _ h; omega, by omega, by omega, by omega, by omega, by omega, by omega, by omega, by omega, by omega⟩⟩
  have HNP := Aside0.mk hnp
  have HNP4 := Aside0.mk hnp4
  have HW6 := Aside0.mk hw6
  have HGS := Aside0.mk hgS
  have HGW := Aside0.mk hgW
  have HGR := Aside0.mk hgR
  clear hzs hgS hgW hgR hw6 hb6 hs6 hS6 hW6 hR6 hfl hnp HB2 HG2
  go_upto_region 10 with (fail)
  rw [show ((w3.alloc (.cells (zs np) 3)).alloc (.cells #[.bool false, .bool false, .bool false, .bool false, .bool false, .bool false] 36)).alloc (.cells #[.bool false, .bool false, .bool false, .bool false] 37) = w6 from HW6.out.symm, ← HGR.out, ← HGW.out, ← HGS.out]
  clear hmk x1
  go_wp2_with fail
  go_loopg [8, 9, 12, 13, 14, 15, 16, 17, 18, 19, 20, 21, 22] nt (fun kq v8 v9 v12 v13 v14 v15 v16 v17 v18 v19 v20 v21 v22 w' => ∃ (i : Nat) (won rp : List Bool), i + kq = nt ∧ v12 = .int .i64 i ∧ v8 = .int .i64 (won.count true : Nat) ∧ v9 = .int .i64 (rp.count true : Nat) ∧ Aside0 (won.length = N) ∧ Aside0 (rp.length = np) ∧ Aside0 (rp.count true < np) ∧ Aside0 (∃ F', MaR w' gM F' c (cmS np won rp) ∧ ∀ k, F' k → F k ∨ w6.heap.size ≤ k) ∧ Aside0 (w'.heap[g]? = some (.cells ([.slice A1 N c1, .int .i64 j.parts, .slice A2 j.map.length c2, .slice A3 j.combine.length c3, .slice A4 j.reduce.length c4, .int .i64 j.chunk, .int .i64 j.window, .int .i64 j.fuel, .slice A5 j.marks.length c5, .int .i64 wk, .int .i64 tr, .int .i64 T] : List Value).toArray 28 (0, 0)) ∧ w'.heap[gS]? = some (.cells (List.replicate np (Value.int .i64 0)).toArray 3 (0, 0)) ∧ w'.heap[gW]? = some (.cells (arrC 6 won).toArray 36 (0, 0)) ∧ w'.heap[gR]? = some (.cells (arrC 4 rp).toArray 37 (0, 0)) ∧ Below W.heap.size W w' ∧ w6.heap.size ≤ w'.heap.size))
  case atStart => exact ⟨0, List.replicate N false, List.replicate np false, by omega, rfl, by rw [List.count_replicate]; rfl, by rw [List.count_replicate]; rfl, ⟨List.length_replicate ..⟩, ⟨List.length_replicate ..⟩, ⟨by rw [List.count_replicate]; show 0 < np; omega⟩, HM6, HMEM6⟩
  case round =>
    obtain ⟨i, won, rp, hi, rfl, rfl, rfl, HWL, HRL, HRC, HMK, HMEM⟩ := hrel
    by_cases hlt : i < nt
    · have hltI : (i : Int) < nt := by omega
      have hi0 : (0 : Int) ≤ (i : Int) := by omega
      have hil : i < ts.length := by rw [← HNT.out]; exact hlt
      obtain ⟨ad, rfl, hcx⟩ := at_intz (Kd.C_below HTS.out HMEM.out.2.2.2.2.1) i hil
      obtain ⟨y, hy⟩ : ∃ y, y = ts[i] := ⟨_, rfl⟩
      rw [← hy] at hcx
      obtain ⟨kn, hkn⟩ : ∃ kn : Nat, lowN y 1048576 = kn := ⟨(lowN y 1048576).toNat, by have := (lowN_range y 1048576 (by omega)).1; omega⟩
      have hk20 : kn < 1048576 := by have := (lowN_range y 1048576 (by omega)).2; omega
      have HLO : Aside0 (Calls Try.prog 13 #[.int .i64 y, .int .i64 1048576] wr fun e w'' => e = .returned (.int .i64 kn) ∧ w'' = wr) := ⟨by
        have h := low y 1048576 wr (by omega) (by omega)
        rw [hkn] at h
        exact h⟩
      obtain ⟨hf, hhf⟩ : ∃ hf, hf = kn / 2 := ⟨_, rfl⟩
      obtain ⟨s, hs⟩ : ∃ s, s = hf % N := ⟨_, rfl⟩
      obtain ⟨p, hp⟩ : ∃ p, p = hf % np := ⟨_, rfl⟩
      obtain ⟨b, hb⟩ : ∃ b, b = kn % 2 := ⟨_, rfl⟩
      have hsN : s < N := by rw [hs]; exact Nat.mod_lt _ (by omega)
      have hpN : p < np := by rw [hp]; exact Nat.mod_lt _ (by omega)
      have hhf1 : hf < 1048576 := by omega
      have d1 : (kn : Int).tdiv 2 = (hf : Int) := by rw [hhf]; exact (Int.ofNat_tdiv kn 2).symm
      have d2 : (hf : Int).tmod (N : Int) = (s : Int) := by rw [hs]; exact (Int.ofNat_tmod hf N).symm
      have d3 : (hf : Int).tmod (np : Int) = (p : Int) := by rw [hp]; exact (Int.ofNat_tmod hf np).symm
      have d4 : (kn : Int).tmod 2 = (b : Int) := by rw [hb]; exact (Int.ofNat_tmod kn 2).symm
      have w1 : IntKind.i64.wrap (hf : Int) = (hf : Int) := IntWalk.i64_in _ (by omega)
      have w2 : IntKind.i64.wrap (s : Int) = (s : Int) := IntWalk.i64_in _ (by omega)
      have w4 : IntKind.i64.wrap (p : Int) = (p : Int) := IntWalk.i64_in _ (by omega)
      have w5 : IntKind.i64.wrap (b : Int) = (b : Int) := IntWalk.i64_in _ (by omega)
      have hz1 : ((N : Int) == 0) = false := by simp; omega
      have hz2 : ((np : Int) == 0) = false := by simp; omega
      have x0 : wr.cell? ⟨g, 0, none⟩ = some (.slice A1 N c1) := cell_of_blk HMEM.out.1
      have x1 : wr.cell? ⟨g, 1, none⟩ = some (.int .i64 (np : Int)) := by rw [← HNP.out]; exact cell_of_blk HMEM.out.1
      have hs0 : (0 : Int) ≤ (s : Int) := by omega
      have hs6 : (s : Int) < 6 := by omega
      have hp0 : (0 : Int) ≤ (p : Int) := by omega
      have hp4 : (p : Int) < 4 := by omega
      have hb2 : b = 0 ∨ b = 1 := by omega
      clear hhf hs hp hb hkn hy
      go_wp2_with fail
      refine HLO.out.mono ?_
      rintro e wr ⟨rfl, rfl⟩
      go_upto_region 14 with (fail)
      go_region
      obtain ⟨cw, hcw⟩ : ∃ cw, cw = won.count true := ⟨_, rfl⟩
      obtain ⟨cr, hcr⟩ : ∃ cr, cr = rp.count true := ⟨_, rfl⟩
      have HCW1 : Aside0 (won.count true = cw) := ⟨hcw.symm⟩
      have HCR1 : Aside0 (rp.count true = cr) := ⟨hcr.symm⟩
      rw [← hcw, ← hcr]
      have hcrn : cr < np := by rw [hcr]; exact HRC.out
      have hcwN : cw ≤ N := by rw [hcw, ← HWL.out]; exact List.count_le_length
      obtain ⟨wq, hwq⟩ : ∃ wq, wq = wr.drew := ⟨_, rfl⟩
      have hbq : Below wr.heap.size wr wq := by rw [hwq]; exact below_drew wr
      rw [← hwq]
      obtain ⟨F', hM, hFF⟩ := HMK.out
      have HMR := Aside0.mk (hM.below hbq)
      have HFF := Aside0.mk hFF
      have HBQ := Aside0.mk hbq
      have HSW : Aside0 (s < won.length) := ⟨by rw [HWL.out]; exact hsN⟩
      have HPL := Aside0.mk hpN
      have HPR : Aside0 (p < rp.length) := ⟨by rw [HRL.out]; exact hpN⟩
      have HSTEP : Aside0 (∀ w', Ch wq w' F' → (w'.heap[g]? = some (.cells ([.slice A1 N c1, .int .i64 j.parts, .slice A2 j.map.length c2, .slice A3 j.combine.length c3, .slice A4 j.reduce.length c4, .int .i64 j.chunk, .int .i64 j.window, .int .i64 j.fuel, .slice A5 j.marks.length c5, .int .i64 wk, .int .i64 tr, .int .i64 T] : List Value).toArray 28 (0, 0)) ∧ w'.heap[gS]? = some (.cells (List.replicate np (Value.int .i64 0)).toArray 3 (0, 0)) ∧ w'.heap[gW]? = some (.cells (arrC 6 won).toArray 36 (0, 0)) ∧ w'.heap[gR]? = some (.cells (arrC 4 rp).toArray 37 (0, 0)) ∧ Below W.heap.size W w' ∧ w6.heap.size ≤ w'.heap.size)) := ⟨fun w' hc => by
        have ho := HOUT.out
        have hm := HMEM.out
        have hn : ∀ k, k < w6.heap.size → ¬ F k → ¬ F' k := fun k h1 h2 h3 => by
          rcases HFF.out k h3 with h | h
          · exact h2 h
          · omega
        have hcc : Ch wr w' F' := (Ch.of_below HBQ.out F').trans hc (fun _ _ h => h)
        exact ⟨hcc.blk hm.1 (hn _ ho.2.2.2.1 HFG.out), hcc.blk hm.2.1 (hn _ ho.2.2.2.2.1 ho.1), hcc.blk hm.2.2.1 (hn _ ho.2.2.2.2.2.1 ho.2.1), hcc.blk hm.2.2.2.1 (hn _ ho.2.2.2.2.2.2.1 ho.2.2.1), Below.ch hm.2.2.2.2.1 hcc hm.2.2.2.2.1.size (fun k hk => by
          rcases HFF.out k hk with h | h
          · exact HFW.out k h
          · exact Nat.le_trans HMEM6.out.2.2.2.2.1.size h), Nat.le_trans hm.2.2.2.2.2 hcc.size⟩⟩
      have hPW : (⟨gW, 0, none⟩ : Addr).add s = ⟨gW, s, none⟩ := by rw [add_plain]
      have hPR : (⟨gR, 0, none⟩ : Addr).add p = ⟨gR, p, none⟩ := by rw [add_plain]
      clear hwq hbq hM hFF hcw hcr x0 x1 hcx
      rcases hb2 with hb0 | hb1
      · have d5 : (kn : Int).tmod 2 = 0 := by rw [d4, hb0]; rfl
        clear d4 w5 hb0
        cases hws : won[s]'HSW.out with
        | true =>
          have HX5 : Aside0 (∀ w', Ch wq w' F' → MsgC w' (doneX s np) (some ⟨gS, 0, none⟩) none np 0) := ⟨fun w' hc => ⟨rep_C w' np HNP4.out (HSTEP.out w' hc).2.1, C_zero _ _, by show (List.replicate np (0 : Int)).length ≤ np; rw [List.length_replicate]; omega, Nat.le_refl _⟩⟩
          have HHR : Aside0 (Calls Try.prog 14 #[.pointer (some ⟨gM, 0, none⟩), .int .i64 1, .agg #[.int .i64 4, .int .i64 s, .int .i64 1, .int .i64 0, .int .i64 0, .int .i64 0, .int .i64 0, .int .i64 0, .slice (some ⟨gS, 0, none⟩) np np, .slice none 0 0]] wq fun e w' => ∃ v1 v2, e = .returned (.tuple #[v1, v2]) ∧ MaPostH wq gM F' c (cmS np won rp) v1 [] v2 ([]) w') := ⟨by
            have h := rHear HMR.out 1 (doneX s np) (some ⟨gS, 0, none⟩) none np 0 HX5.out (by show (0 : Int) ≤ 0; omega) (by show (0 : Int) ≤ 1000000; omega)
            rw [cm_done c np won rp s HSW.out (by rw [HCW.out.2.2.2]; exact HNP.out) (by rw [HCW.out.2.1]; exact HMY.out.tries.1) (by rw [HCW.out.1]; exact HMY.out.workers.1), hws, if_pos rfl] at h
            rw [show (doneX s np).set.length = np from List.length_replicate ..] at h
            exact h⟩
          go_wp2_with fail
          refine HHR.out.mono ?_
          rintro e w5 ⟨v1, v2, rfl, hP5⟩
          obtain ⟨F2, B2, AL, nL, AR, nR, rfl, rfl, _, _, hM5, hF5, _, _, _, _, hc5⟩ := hP5.parts
          have HM5 := Aside0.mk hM5
          have HF5 : Aside0 (∀ k, F2 k → F k ∨ w6.heap.size ≤ k) := ⟨fun k hk => by
            rcases hF5 k hk with h | h
            · exact HFF.out k h
            · exact .inr (Nat.le_trans HMEM.out.2.2.2.2.2 (Nat.le_trans HBQ.out.size h))⟩
          have HMEM5 := Aside0.mk (HSTEP.out w5 hc5)
          clear hP5 hM5 hF5 hc5
          have y1 : w5.cell? ⟨gW, s, none⟩ = some (.bool (won[s]'HSW.out)) := by rw [cell_of_blk HMEM5.out.2.2.1, arr_get]
          have yz : w5.frozen? ⟨gW, s, none⟩ = false := frozen_of_blk HMEM5.out.2.2.1
          rw [hws] at y1
          clear HHR HX5
          go_wp2_with fail
          refine (one_ _ w5).mono ?_
          rintro e w5 ⟨rfl, rfl⟩
          have HMK5 : Aside0 (∃ F', MaR w5 gM F' c (cmS np won rp) ∧ ∀ k, F' k → F k ∨ w6.heap.size ≤ k) := ⟨⟨F2, HM5.out, HF5.out⟩⟩
          go_wp2_with fail
          go_roundg (nt - (i + 1))
          case measure => omega
          case rel => exact ⟨i + 1, won, rp, by omega, by go_num, by rw [HCW1.out], by rw [HCR1.out], HWL, HRL, HRC, HMK5, HMEM5⟩
        | false =>
          have HX5 : Aside0 (∀ w', Ch wq w' F' → MsgC w' (doneX s np) (some ⟨gS, 0, none⟩) none np 0) := ⟨fun w' hc => ⟨rep_C w' np HNP4.out (HSTEP.out w' hc).2.1, C_zero _ _, by show (List.replicate np (0 : Int)).length ≤ np; rw [List.length_replicate]; omega, Nat.le_refl _⟩⟩
          have HHR : Aside0 (Calls Try.prog 14 #[.pointer (some ⟨gM, 0, none⟩), .int .i64 1, .agg #[.int .i64 4, .int .i64 s, .int .i64 1, .int .i64 0, .int .i64 0, .int .i64 0, .int .i64 0, .int .i64 0, .slice (some ⟨gS, 0, none⟩) np np, .slice none 0 0]] wq fun e w' => ∃ v1 v2, e = .returned (.tuple #[v1, v2]) ∧ MaPostH wq gM F' c (cmS np (won.set s true) rp) v1 [] v2 ([⟨1, 0, s, 1, 0, List.replicate np 0, []⟩]) w') := ⟨by
            have h := rHear HMR.out 1 (doneX s np) (some ⟨gS, 0, none⟩) none np 0 HX5.out (by show (0 : Int) ≤ 0; omega) (by show (0 : Int) ≤ 1000000; omega)
            rw [cm_done c np won rp s HSW.out (by rw [HCW.out.2.2.2]; exact HNP.out) (by rw [HCW.out.2.1]; exact HMY.out.tries.1) (by rw [HCW.out.1]; exact HMY.out.workers.1), hws, if_neg (by decide)] at h
            rw [show (doneX s np).set.length = np from List.length_replicate ..] at h
            exact h⟩
          go_wp2_with fail
          refine HHR.out.mono ?_
          rintro e w5 ⟨v1, v2, rfl, hP5⟩
          obtain ⟨F2, B2, AL, nL, AR, nR, rfl, rfl, _, _, hM5, hF5, _, _, _, _, hc5⟩ := hP5.parts
          have HM5 := Aside0.mk hM5
          have HF5 : Aside0 (∀ k, F2 k → F k ∨ w6.heap.size ≤ k) := ⟨fun k hk => by
            rcases hF5 k hk with h | h
            · exact HFF.out k h
            · exact .inr (Nat.le_trans HMEM.out.2.2.2.2.2 (Nat.le_trans HBQ.out.size h))⟩
          have HMEM5 := Aside0.mk (HSTEP.out w5 hc5)
          clear hP5 hM5 hF5 hc5
          have y1 : w5.cell? ⟨gW, s, none⟩ = some (.bool (won[s]'HSW.out)) := by rw [cell_of_blk HMEM5.out.2.2.1, arr_get]
          have yz : w5.frozen? ⟨gW, s, none⟩ = false := frozen_of_blk HMEM5.out.2.2.1
          rw [hws] at y1
          clear HHR HX5
          go_wp2_with fail
          refine (one_ _ w5).mono ?_
          rintro e w5 ⟨rfl, rfl⟩
          have HFIN : Aside0 (∀ w7, w7 = w5.setCell ⟨gW, s, none⟩ (.bool true) → (∃ F', MaR w7 gM F' c (cmS np (won.set s true) rp) ∧ ∀ k, F' k → F k ∨ w6.heap.size ≤ k) ∧ (w7.heap[g]? = some (.cells ([.slice A1 N c1, .int .i64 j.parts, .slice A2 j.map.length c2, .slice A3 j.combine.length c3, .slice A4 j.reduce.length c4, .int .i64 j.chunk, .int .i64 j.window, .int .i64 j.fuel, .slice A5 j.marks.length c5, .int .i64 wk, .int .i64 tr, .int .i64 T] : List Value).toArray 28 (0, 0)) ∧ w7.heap[gS]? = some (.cells (List.replicate np (Value.int .i64 0)).toArray 3 (0, 0)) ∧ w7.heap[gW]? = some (.cells (arrC 6 (won.set s true)).toArray 36 (0, 0)) ∧ w7.heap[gR]? = some (.cells (arrC 4 rp).toArray 37 (0, 0)) ∧ Below W.heap.size W w7 ∧ w6.heap.size ≤ w7.heap.size)) := ⟨fun w7 h7 => by
            have hc : Ch w5 w7 (fun k => k = gW) := by rw [h7]; exact (Ch.refl w5 (fun k => k = gW)).setCell _ _ rfl
            have ho := HOUT.out
            have hm := HMEM5.out
            refine ⟨⟨F2, HM5.out.ch hc (fun k hk e => by
              rcases HF5.out k hk with h | h
              · rw [e] at h; exact ho.2.1 h
              · omega), HF5.out⟩, hc.blk hm.1 (by omega), hc.blk hm.2.1 (by omega), ?_, hc.blk hm.2.2.2.1 (by omega), Below.ch hm.2.2.2.2.1 hc hm.2.2.2.2.1.size (fun k e => by omega), Nat.le_trans hm.2.2.2.2.2 hc.size⟩
            rw [h7, ← arr_set 6 won s HSW.out]
            exact setCell_blk hm.2.2.1 _⟩
          have HCNT : Aside0 ((won.set s true).count true = cw + 1) := ⟨by rw [count_set_new won s HSW.out hws, HCW1.out]⟩
          go_wp2_with fail
          go_roundg (nt - (i + 1))
          case measure => omega
          case rel => exact ⟨i + 1, won.set s true, rp, by omega, by go_num, by rw [HCNT.out]; rfl, by rw [HCR1.out], ⟨by rw [List.length_set]; exact HWL.out⟩, HRL, HRC, ⟨(HFIN.out _ rfl).1⟩, ⟨(HFIN.out _ rfl).2⟩⟩
      · have d5 : (kn : Int).tmod 2 = 1 := by rw [d4, hb1]; rfl
        clear d4 w5 hb1
        have hcrb : ((cr : Int) == (np : Int)) = false := by simp; omega
        by_cases hA : cw < N
        · have hAb : ((cw : Int) == (N : Int)) = false := by simp; omega
          have HX5 : Aside0 (∀ w', Ch wq w' F' → MsgC w' (readyX p) none none 0 0) := ⟨fun w' hc => ⟨C_zero _ _, C_zero _ _, Nat.le_refl _, Nat.le_refl _⟩⟩
          have HHR : Aside0 (Calls Try.prog 14 #[.pointer (some ⟨gM, 0, none⟩), .int .i64 1, .agg #[.int .i64 8, .int .i64 0, .int .i64 0, .int .i64 p, .int .i64 0, .int .i64 0, .int .i64 0, .int .i64 0, .slice none 0 0, .slice none 0 0]] wq fun e w' => ∃ v1 v2, e = .returned (.tuple #[v1, v2]) ∧ MaPostH wq gM F' c (cmS np won rp) v1 [] v2 ([]) w') := ⟨by
            have h := rHear HMR.out 1 (readyX p) none none 0 0 HX5.out (by show (0 : Int) ≤ 0; omega) (by show (0 : Int) ≤ 1000000; omega)
            rw [cm_ready c np won rp p (by rw [HWL.out]; exact HNC.out) HRL.out HPL.out (by rw [HCW.out.2.2.2]; exact HNP.out) (by rw [HCW.out.1]; exact HMY.out.workers.1), if_pos (by rw [HCW1.out, HWL.out]; exact hA)] at h
            exact h⟩
          go_wp2_with fail
          refine HHR.out.mono ?_
          rintro e w5 ⟨v1, v2, rfl, hP5⟩
          obtain ⟨F2, B2, AL, nL, AR, nR, rfl, rfl, _, _, hM5, hF5, _, _, _, _, hc5⟩ := hP5.parts
          have HM5 := Aside0.mk hM5
          have HF5 : Aside0 (∀ k, F2 k → F k ∨ w6.heap.size ≤ k) := ⟨fun k hk => by
            rcases hF5 k hk with h | h
            · exact HFF.out k h
            · exact .inr (Nat.le_trans HMEM.out.2.2.2.2.2 (Nat.le_trans HBQ.out.size h))⟩
          have HMEM5 := Aside0.mk (HSTEP.out w5 hc5)
          clear hP5 hM5 hF5 hc5
          have x0 : w5.cell? ⟨g, 0, none⟩ = some (.slice A1 N c1) := cell_of_blk HMEM5.out.1
          have x1 : w5.cell? ⟨g, 1, none⟩ = some (.int .i64 (np : Int)) := by rw [← HNP.out]; exact cell_of_blk HMEM5.out.1
          have y1 : w5.cell? ⟨gR, p, none⟩ = some (.bool (rp[p]'HPR.out)) := by rw [cell_of_blk HMEM5.out.2.2.2.1, arr_get]
          have yz : w5.frozen? ⟨gR, p, none⟩ = false := frozen_of_blk HMEM5.out.2.2.2.1
          clear HHR HX5
          have HM7 : Aside0 (MaR w5 gM F2 c (cmS np won rp)) := HM5
          have HMEM7 := HMEM5
          have HST : Aside0 (Calls Try.prog 16 #[.pointer (some ⟨gM, 0, none⟩)] w5 fun e w' => e = .returned (.tuple #[.int .i64 0, .int .i64 0]) ∧ Below w5.heap.size w5 w') := ⟨rState HM5.out⟩
          go_wp2_with fail
          refine HST.out.mono ?_
          rintro e w8 ⟨rfl, hb8⟩
          have HMK8 : Aside0 (∃ F', MaR w8 gM F' c (cmS np (won) (rp)) ∧ ∀ k, F' k → F k ∨ w6.heap.size ≤ k) := ⟨⟨F2, HM7.out.below hb8, HF5.out⟩⟩
          have HMEM8 : Aside0 (w8.heap[g]? = some (.cells ([.slice A1 N c1, .int .i64 j.parts, .slice A2 j.map.length c2, .slice A3 j.combine.length c3, .slice A4 j.reduce.length c4, .int .i64 j.chunk, .int .i64 j.window, .int .i64 j.fuel, .slice A5 j.marks.length c5, .int .i64 wk, .int .i64 tr, .int .i64 T] : List Value).toArray 28 (0, 0)) ∧ w8.heap[gS]? = some (.cells (List.replicate np (Value.int .i64 0)).toArray 3 (0, 0)) ∧ w8.heap[gW]? = some (.cells (arrC 6 won).toArray 36 (0, 0)) ∧ w8.heap[gR]? = some (.cells (arrC 4 (rp)).toArray 37 (0, 0)) ∧ Below W.heap.size W w8 ∧ w6.heap.size ≤ w8.heap.size) := ⟨by
            have hm := HMEM7.out
            exact ⟨(hb8.block _ (blk_lt' hm.1)).trans hm.1, (hb8.block _ (blk_lt' hm.2.1)).trans hm.2.1, (hb8.block _ (blk_lt' hm.2.2.1)).trans hm.2.2.1, (hb8.block _ (blk_lt' hm.2.2.2.1)).trans hm.2.2.2.1, below_then hm.2.2.2.2.1 hm.2.2.2.2.1.size hb8, Nat.le_trans hm.2.2.2.2.2 hb8.size⟩⟩
          clear hb8
          go_wp2_with fail
          refine (one_ _ w8).mono ?_
          rintro e w8 ⟨rfl, rfl⟩
          go_wp2_with fail
          go_roundg (nt - (i + 1))
          case measure => omega
          case rel => exact ⟨i + 1, won, rp, by omega, by go_num, by rw [HCW1.out], by rw [HCR1.out], HWL, HRL, HRC, HMK8, HMEM8⟩
        · have hAe : cw = N := by omega
          have hAb : ((cw : Int) == (N : Int)) = true := by simp; omega
          clear hAe
          cases hrp : rp[p]'HPR.out with
          | true =>
            have hse : rp.set p true = rp := by
              have h := List.set_getElem_self HPR.out
              rw [hrp] at h
              exact h
            have HX5 : Aside0 (∀ w', Ch wq w' F' → MsgC w' (readyX p) none none 0 0) := ⟨fun w' hc => ⟨C_zero _ _, C_zero _ _, Nat.le_refl _, Nat.le_refl _⟩⟩
            have HHR : Aside0 (Calls Try.prog 14 #[.pointer (some ⟨gM, 0, none⟩), .int .i64 1, .agg #[.int .i64 8, .int .i64 0, .int .i64 0, .int .i64 p, .int .i64 0, .int .i64 0, .int .i64 0, .int .i64 0, .slice none 0 0, .slice none 0 0]] wq fun e w' => ∃ v1 v2, e = .returned (.tuple #[v1, v2]) ∧ MaPostH wq gM F' c (cmS np won rp) v1 [] v2 ([]) w') := ⟨by
              have h := rHear HMR.out 1 (readyX p) none none 0 0 HX5.out (by show (0 : Int) ≤ 0; omega) (by show (0 : Int) ≤ 1000000; omega)
              rw [cm_ready c np won rp p (by rw [HWL.out]; exact HNC.out) HRL.out HPL.out (by rw [HCW.out.2.2.2]; exact HNP.out) (by rw [HCW.out.1]; exact HMY.out.workers.1), if_neg (by rw [HCW1.out, HWL.out]; omega), hse, if_pos (by rw [HCR1.out]; omega)] at h
              exact h⟩
            go_wp2_with fail
            refine HHR.out.mono ?_
            rintro e w5 ⟨v1, v2, rfl, hP5⟩
            obtain ⟨F2, B2, AL, nL, AR, nR, rfl, rfl, _, _, hM5, hF5, _, _, _, _, hc5⟩ := hP5.parts
            have HM5 := Aside0.mk hM5
            have HF5 : Aside0 (∀ k, F2 k → F k ∨ w6.heap.size ≤ k) := ⟨fun k hk => by
              rcases hF5 k hk with h | h
              · exact HFF.out k h
              · exact .inr (Nat.le_trans HMEM.out.2.2.2.2.2 (Nat.le_trans HBQ.out.size h))⟩
            have HMEM5 := Aside0.mk (HSTEP.out w5 hc5)
            clear hP5 hM5 hF5 hc5
            have x0 : w5.cell? ⟨g, 0, none⟩ = some (.slice A1 N c1) := cell_of_blk HMEM5.out.1
            have x1 : w5.cell? ⟨g, 1, none⟩ = some (.int .i64 (np : Int)) := by rw [← HNP.out]; exact cell_of_blk HMEM5.out.1
            have y1 : w5.cell? ⟨gR, p, none⟩ = some (.bool (rp[p]'HPR.out)) := by rw [cell_of_blk HMEM5.out.2.2.2.1, arr_get]
            have yz : w5.frozen? ⟨gR, p, none⟩ = false := frozen_of_blk HMEM5.out.2.2.2.1
            clear HHR HX5
            rw [hrp] at y1
            have HM7 : Aside0 (MaR w5 gM F2 c (cmS np won rp)) := HM5
            have HMEM7 := HMEM5
            have HST : Aside0 (Calls Try.prog 16 #[.pointer (some ⟨gM, 0, none⟩)] w5 fun e w' => e = .returned (.tuple #[.int .i64 0, .int .i64 0]) ∧ Below w5.heap.size w5 w') := ⟨rState HM5.out⟩
            go_wp2_with fail
            refine HST.out.mono ?_
            rintro e w8 ⟨rfl, hb8⟩
            have HMK8 : Aside0 (∃ F', MaR w8 gM F' c (cmS np (won) (rp)) ∧ ∀ k, F' k → F k ∨ w6.heap.size ≤ k) := ⟨⟨F2, HM7.out.below hb8, HF5.out⟩⟩
            have HMEM8 : Aside0 (w8.heap[g]? = some (.cells ([.slice A1 N c1, .int .i64 j.parts, .slice A2 j.map.length c2, .slice A3 j.combine.length c3, .slice A4 j.reduce.length c4, .int .i64 j.chunk, .int .i64 j.window, .int .i64 j.fuel, .slice A5 j.marks.length c5, .int .i64 wk, .int .i64 tr, .int .i64 T] : List Value).toArray 28 (0, 0)) ∧ w8.heap[gS]? = some (.cells (List.replicate np (Value.int .i64 0)).toArray 3 (0, 0)) ∧ w8.heap[gW]? = some (.cells (arrC 6 won).toArray 36 (0, 0)) ∧ w8.heap[gR]? = some (.cells (arrC 4 (rp)).toArray 37 (0, 0)) ∧ Below W.heap.size W w8 ∧ w6.heap.size ≤ w8.heap.size) := ⟨by
              have hm := HMEM7.out
              exact ⟨(hb8.block _ (blk_lt' hm.1)).trans hm.1, (hb8.block _ (blk_lt' hm.2.1)).trans hm.2.1, (hb8.block _ (blk_lt' hm.2.2.1)).trans hm.2.2.1, (hb8.block _ (blk_lt' hm.2.2.2.1)).trans hm.2.2.2.1, below_then hm.2.2.2.2.1 hm.2.2.2.2.1.size hb8, Nat.le_trans hm.2.2.2.2.2 hb8.size⟩⟩
            clear hb8
            go_wp2_with fail
            refine (one_ _ w8).mono ?_
            rintro e w8 ⟨rfl, rfl⟩
            go_wp2_with fail
            go_roundg (nt - (i + 1))
            case measure => omega
            case rel => exact ⟨i + 1, won, rp, by omega, by go_num, by rw [HCW1.out], by rw [HCR1.out], HWL, HRL, HRC, HMK8, HMEM8⟩
          | false =>
            have HCN : Aside0 ((rp.set p true).count true = cr + 1) := ⟨by rw [count_set_new rp p HPR.out hrp, HCR1.out]⟩
            by_cases hB : cr + 1 < np
            · have HCL := Aside0.mk hB
              have hBb : ((cr : Int) + 1 == (np : Int)) = false := by simp; omega
              have HX5 : Aside0 (∀ w', Ch wq w' F' → MsgC w' (readyX p) none none 0 0) := ⟨fun w' hc => ⟨C_zero _ _, C_zero _ _, Nat.le_refl _, Nat.le_refl _⟩⟩
              have HHR : Aside0 (Calls Try.prog 14 #[.pointer (some ⟨gM, 0, none⟩), .int .i64 1, .agg #[.int .i64 8, .int .i64 0, .int .i64 0, .int .i64 p, .int .i64 0, .int .i64 0, .int .i64 0, .int .i64 0, .slice none 0 0, .slice none 0 0]] wq fun e w' => ∃ v1 v2, e = .returned (.tuple #[v1, v2]) ∧ MaPostH wq gM F' c (cmS np won (rp.set p true)) v1 [] v2 ([]) w') := ⟨by
                have h := rHear HMR.out 1 (readyX p) none none 0 0 HX5.out (by show (0 : Int) ≤ 0; omega) (by show (0 : Int) ≤ 1000000; omega)
                rw [cm_ready c np won rp p (by rw [HWL.out]; exact HNC.out) HRL.out HPL.out (by rw [HCW.out.2.2.2]; exact HNP.out) (by rw [HCW.out.1]; exact HMY.out.workers.1), if_neg (by rw [HCW1.out, HWL.out]; omega), if_pos (by rw [HCN.out]; exact hB)] at h
                exact h⟩
              go_wp2_with fail
              refine HHR.out.mono ?_
              rintro e w5 ⟨v1, v2, rfl, hP5⟩
              obtain ⟨F2, B2, AL, nL, AR, nR, rfl, rfl, _, _, hM5, hF5, _, _, _, _, hc5⟩ := hP5.parts
              have HM5 := Aside0.mk hM5
              have HF5 : Aside0 (∀ k, F2 k → F k ∨ w6.heap.size ≤ k) := ⟨fun k hk => by
                rcases hF5 k hk with h | h
                · exact HFF.out k h
                · exact .inr (Nat.le_trans HMEM.out.2.2.2.2.2 (Nat.le_trans HBQ.out.size h))⟩
              have HMEM5 := Aside0.mk (HSTEP.out w5 hc5)
              clear hP5 hM5 hF5 hc5
              have x0 : w5.cell? ⟨g, 0, none⟩ = some (.slice A1 N c1) := cell_of_blk HMEM5.out.1
              have x1 : w5.cell? ⟨g, 1, none⟩ = some (.int .i64 (np : Int)) := by rw [← HNP.out]; exact cell_of_blk HMEM5.out.1
              have y1 : w5.cell? ⟨gR, p, none⟩ = some (.bool (rp[p]'HPR.out)) := by rw [cell_of_blk HMEM5.out.2.2.2.1, arr_get]
              have yz : w5.frozen? ⟨gR, p, none⟩ = false := frozen_of_blk HMEM5.out.2.2.2.1
              clear HHR HX5
              rw [hrp] at y1
              have HSTO : Aside0 (∀ w7, w7 = w5.setCell ⟨gR, p, none⟩ (.bool true) → MaR w7 gM F2 c (cmS np won (rp.set p true)) ∧ (w7.heap[g]? = some (.cells ([.slice A1 N c1, .int .i64 j.parts, .slice A2 j.map.length c2, .slice A3 j.combine.length c3, .slice A4 j.reduce.length c4, .int .i64 j.chunk, .int .i64 j.window, .int .i64 j.fuel, .slice A5 j.marks.length c5, .int .i64 wk, .int .i64 tr, .int .i64 T] : List Value).toArray 28 (0, 0)) ∧ w7.heap[gS]? = some (.cells (List.replicate np (Value.int .i64 0)).toArray 3 (0, 0)) ∧ w7.heap[gW]? = some (.cells (arrC 6 won).toArray 36 (0, 0)) ∧ w7.heap[gR]? = some (.cells (arrC 4 (rp.set p true)).toArray 37 (0, 0)) ∧ Below W.heap.size W w7 ∧ w6.heap.size ≤ w7.heap.size)) := ⟨fun w7 h7 => by
                have hc : Ch w5 w7 (fun k => k = gR) := by rw [h7]; exact (Ch.refl w5 (fun k => k = gR)).setCell _ _ rfl
                have ho := HOUT.out
                have hm := HMEM5.out
                refine ⟨HM5.out.ch hc (fun k hk e => by
                  rcases HF5.out k hk with h | h
                  · rw [e] at h; exact ho.2.2.1 h
                  · omega), hc.blk hm.1 (by omega), hc.blk hm.2.1 (by omega), hc.blk hm.2.2.1 (by omega), ?_, Below.ch hm.2.2.2.2.1 hc hm.2.2.2.2.1.size (fun k e => by omega), Nat.le_trans hm.2.2.2.2.2 hc.size⟩
                rw [h7, ← arr_set 4 rp p HPR.out]
                exact setCell_blk hm.2.2.2.1 _⟩
              obtain ⟨w7, hw7⟩ : ∃ w7, w7 = w5.setCell ⟨gR, p, none⟩ (.bool true) := ⟨_, rfl⟩
              have HM7 := Aside0.mk (HSTO.out w7 hw7).1
              have HMEM7 := Aside0.mk (HSTO.out w7 hw7).2
              have HW7 := Aside0.mk hw7
              have x17 : w7.cell? ⟨g, 1, none⟩ = some (.int .i64 (np : Int)) := by rw [← HNP.out]; exact cell_of_blk HMEM7.out.1
              clear hw7 HSTO
              have HST : Aside0 (Calls Try.prog 16 #[.pointer (some ⟨gM, 0, none⟩)] w7 fun e w' => e = .returned (.tuple #[.int .i64 0, .int .i64 0]) ∧ Below w7.heap.size w7 w') := ⟨rState HM7.out⟩
              go_upto_region 26 with (fail)
              rw [show w5.setCell ⟨gR, p, none⟩ (.bool true) = w7 from HW7.out.symm]
              clear x0 x1 y1 yz
              go_wp2_with fail
              refine HST.out.mono ?_
              rintro e w8 ⟨rfl, hb8⟩
              have HMK8 : Aside0 (∃ F', MaR w8 gM F' c (cmS np (won) (rp.set p true)) ∧ ∀ k, F' k → F k ∨ w6.heap.size ≤ k) := ⟨⟨F2, HM7.out.below hb8, HF5.out⟩⟩
              have HMEM8 : Aside0 (w8.heap[g]? = some (.cells ([.slice A1 N c1, .int .i64 j.parts, .slice A2 j.map.length c2, .slice A3 j.combine.length c3, .slice A4 j.reduce.length c4, .int .i64 j.chunk, .int .i64 j.window, .int .i64 j.fuel, .slice A5 j.marks.length c5, .int .i64 wk, .int .i64 tr, .int .i64 T] : List Value).toArray 28 (0, 0)) ∧ w8.heap[gS]? = some (.cells (List.replicate np (Value.int .i64 0)).toArray 3 (0, 0)) ∧ w8.heap[gW]? = some (.cells (arrC 6 won).toArray 36 (0, 0)) ∧ w8.heap[gR]? = some (.cells (arrC 4 (rp.set p true)).toArray 37 (0, 0)) ∧ Below W.heap.size W w8 ∧ w6.heap.size ≤ w8.heap.size) := ⟨by
                have hm := HMEM7.out
                exact ⟨(hb8.block _ (blk_lt' hm.1)).trans hm.1, (hb8.block _ (blk_lt' hm.2.1)).trans hm.2.1, (hb8.block _ (blk_lt' hm.2.2.1)).trans hm.2.2.1, (hb8.block _ (blk_lt' hm.2.2.2.1)).trans hm.2.2.2.1, below_then hm.2.2.2.2.1 hm.2.2.2.2.1.size hb8, Nat.le_trans hm.2.2.2.2.2 hb8.size⟩⟩
              clear hb8
              go_wp2_with fail
              refine (one_ _ w8).mono ?_
              rintro e w8 ⟨rfl, rfl⟩
              go_wp2_with fail
              go_roundg (nt - (i + 1))
              case measure => omega
              case rel => exact ⟨i + 1, won, rp.set p true, by omega, by go_num, by rw [HCW1.out], by rw [HCN.out]; rfl, HWL, ⟨by rw [List.length_set]; exact HRL.out⟩, ⟨by rw [HCN.out]; exact HCL.out⟩, HMK8, HMEM8⟩
            · have hBb : ((cr : Int) + 1 == (np : Int)) = true := by simp; omega
              have HX5 : Aside0 (∀ w', Ch wq w' F' → MsgC w' (readyX p) none none 0 0) := ⟨fun w' hc => ⟨C_zero _ _, C_zero _ _, Nat.le_refl _, Nat.le_refl _⟩⟩
              have HHR : Aside0 (Calls Try.prog 14 #[.pointer (some ⟨gM, 0, none⟩), .int .i64 1, .agg #[.int .i64 8, .int .i64 0, .int .i64 0, .int .i64 p, .int .i64 0, .int .i64 0, .int .i64 0, .int .i64 0, .slice none 0 0, .slice none 0 0]] wq fun e w' => ∃ v1 v2, e = .returned (.tuple #[v1, v2]) ∧ MaPostH wq gM F' c (endS (cmS np won (rp.set p true)) 1 0) v1 [] v2 ([⟨2, 0, 0, 0, 0, [], []⟩]) w') := ⟨by
                have h := rHear HMR.out 1 (readyX p) none none 0 0 HX5.out (by show (0 : Int) ≤ 0; omega) (by show (0 : Int) ≤ 1000000; omega)
                rw [cm_ready c np won rp p (by rw [HWL.out]; exact HNC.out) HRL.out HPL.out (by rw [HCW.out.2.2.2]; exact HNP.out) (by rw [HCW.out.1]; exact HMY.out.workers.1), if_neg (by rw [HCW1.out, HWL.out]; omega), if_neg (by rw [HCN.out]; omega)] at h
                exact h⟩
              go_wp2_with fail
              refine HHR.out.mono ?_
              rintro e w5 ⟨v1, v2, rfl, hP5⟩
              obtain ⟨F2, B2, AL, nL, AR, nR, rfl, rfl, _, _, hM5, hF5, _, _, _, _, hc5⟩ := hP5.parts
              have HM5 := Aside0.mk hM5
              have HF5 : Aside0 (∀ k, F2 k → F k ∨ w6.heap.size ≤ k) := ⟨fun k hk => by
                rcases hF5 k hk with h | h
                · exact HFF.out k h
                · exact .inr (Nat.le_trans HMEM.out.2.2.2.2.2 (Nat.le_trans HBQ.out.size h))⟩
              have HMEM5 := Aside0.mk (HSTEP.out w5 hc5)
              clear hP5 hM5 hF5 hc5
              have x0 : w5.cell? ⟨g, 0, none⟩ = some (.slice A1 N c1) := cell_of_blk HMEM5.out.1
              have x1 : w5.cell? ⟨g, 1, none⟩ = some (.int .i64 (np : Int)) := by rw [← HNP.out]; exact cell_of_blk HMEM5.out.1
              have y1 : w5.cell? ⟨gR, p, none⟩ = some (.bool (rp[p]'HPR.out)) := by rw [cell_of_blk HMEM5.out.2.2.2.1, arr_get]
              have yz : w5.frozen? ⟨gR, p, none⟩ = false := frozen_of_blk HMEM5.out.2.2.2.1
              clear HHR HX5
              rw [hrp] at y1
              have HSTO : Aside0 (∀ w7, w7 = w5.setCell ⟨gR, p, none⟩ (.bool true) → MaR w7 gM F2 c (endS (cmS np won (rp.set p true)) 1 0) ∧ (w7.heap[g]? = some (.cells ([.slice A1 N c1, .int .i64 j.parts, .slice A2 j.map.length c2, .slice A3 j.combine.length c3, .slice A4 j.reduce.length c4, .int .i64 j.chunk, .int .i64 j.window, .int .i64 j.fuel, .slice A5 j.marks.length c5, .int .i64 wk, .int .i64 tr, .int .i64 T] : List Value).toArray 28 (0, 0)) ∧ w7.heap[gS]? = some (.cells (List.replicate np (Value.int .i64 0)).toArray 3 (0, 0)) ∧ w7.heap[gW]? = some (.cells (arrC 6 won).toArray 36 (0, 0)) ∧ w7.heap[gR]? = some (.cells (arrC 4 (rp.set p true)).toArray 37 (0, 0)) ∧ Below W.heap.size W w7 ∧ w6.heap.size ≤ w7.heap.size)) := ⟨fun w7 h7 => by
                have hc : Ch w5 w7 (fun k => k = gR) := by rw [h7]; exact (Ch.refl w5 (fun k => k = gR)).setCell _ _ rfl
                have ho := HOUT.out
                have hm := HMEM5.out
                refine ⟨HM5.out.ch hc (fun k hk e => by
                  rcases HF5.out k hk with h | h
                  · rw [e] at h; exact ho.2.2.1 h
                  · omega), hc.blk hm.1 (by omega), hc.blk hm.2.1 (by omega), hc.blk hm.2.2.1 (by omega), ?_, Below.ch hm.2.2.2.2.1 hc hm.2.2.2.2.1.size (fun k e => by omega), Nat.le_trans hm.2.2.2.2.2 hc.size⟩
                rw [h7, ← arr_set 4 rp p HPR.out]
                exact setCell_blk hm.2.2.2.1 _⟩
              obtain ⟨w7, hw7⟩ : ∃ w7, w7 = w5.setCell ⟨gR, p, none⟩ (.bool true) := ⟨_, rfl⟩
              have HM7 := Aside0.mk (HSTO.out w7 hw7).1
              have HMEM7 := Aside0.mk (HSTO.out w7 hw7).2
              have HW7 := Aside0.mk hw7
              have x17 : w7.cell? ⟨g, 1, none⟩ = some (.int .i64 (np : Int)) := by rw [← HNP.out]; exact cell_of_blk HMEM7.out.1
              clear hw7 HSTO
              have HST : Aside0 (Calls Try.prog 16 #[.pointer (some ⟨gM, 0, none⟩)] w7 fun e w' => e = .returned (.tuple #[.int .i64 1, .int .i64 0]) ∧ Below w7.heap.size w7 w') := ⟨rState HM7.out⟩
              go_upto_region 26 with (fail)
              rw [show w5.setCell ⟨gR, p, none⟩ (.bool true) = w7 from HW7.out.symm]
              clear x0 x1 y1 yz
              go_wp2_with fail
              refine HST.out.mono ?_
              rintro e w8 ⟨rfl, hb8⟩
              have HM8 := Aside0.mk (HM7.out.below hb8)
              have HB8 := Aside0.mk (below_then HMEM7.out.2.2.2.2.1 HMEM7.out.2.2.2.2.1.size hb8)
              have HF8 : Aside0 (∀ k, F2 k → W.heap.size ≤ k) := ⟨fun k hk => by
                rcases HF5.out k hk with h | h
                · exact HFW.out k h
                · exact Nat.le_trans HMEM6.out.2.2.2.2.1.size h⟩
              clear hb8
              have HEND : Aside0 (hearF c (endS (cmS np won (rp.set p true)) 1 0) 1 ⟨5, 0, 0, 0, 0, 0, 0, 2, [], []⟩ = (endS (cmS np won (rp.set p true)) 1 0, [⟨1, 9, 0, 0, 0, 0, 0⟩], [])) := ⟨by
                have hwk : 1 ≤ c.workers := by rw [HCW.out.1]; exact HMY.out.workers.1
                unfold hearF
                rw [if_neg (by omega), if_pos (by show ¬ (1 : Int) = 0; decide)]
                rfl⟩
              have HH8 : Aside0 (Calls Try.prog 14 #[.pointer (some ⟨gM, 0, none⟩), .int .i64 1, .agg #[.int .i64 5, .int .i64 0, .int .i64 0, .int .i64 0, .int .i64 0, .int .i64 0, .int .i64 0, .int .i64 2, .slice none 0 0, .slice none 0 0]] w8 fun e w' => ∃ v1 v2, e = .returned (.tuple #[v1, v2]) ∧ MaPostH w8 gM F2 c (endS (cmS np won (rp.set p true)) 1 0) v1 [⟨1, 9, 0, 0, 0, 0, 0⟩] v2 [] w') := ⟨by
                have h := rHear HM8.out 1 ⟨5, 0, 0, 0, 0, 0, 0, 2, [], []⟩ none none 0 0 (fun w' hc => ⟨C_zero _ _, C_zero _ _, Nat.le_refl _, Nat.le_refl _⟩) (by show (0 : Int) ≤ 0; omega) (by show (0 : Int) ≤ 1000000; omega)
                rw [HEND.out] at h
                exact h⟩
              go_wp2_with fail
              refine (one_ _ w8).mono ?_
              rintro e w8 ⟨rfl, rfl⟩
              go_wp2_with fail
              refine HH8.out.mono ?_
              rintro e w9 ⟨v1, v2, rfl, hP9⟩
              obtain ⟨F9, B9, A9, n9, A8, n8, rfl, rfl, hk9, _, hM9, hF9, _, _, _, _, hc9⟩ := hP9.parts
              have HC9 := Aside0.mk hk9
              have HM9 := Aside0.mk hM9
              have HB9 : Aside0 (Below W.heap.size W w9) := ⟨Below.ch HB8.out hc9 HB8.out.size HF8.out⟩
              have HF9 : Aside0 (∀ k, F9 k → W.heap.size ≤ k) := ⟨fun k hk => by
                rcases hF9 k hk with h | h
                · exact HF8.out k h
                · exact Nat.le_trans HB8.out.size h⟩
              clear hP9 hk9 hM9 hF9 hc9 HH8
              obtain ⟨wa, hwa⟩ : ∃ wa, wa = w9.alloc (.cells #[.int .i64 0, .int .i64 1, .int .i64 9, .int .i64 0, .int .i64 0, .int .i64 0, .int .i64 0, .int .i64 0, .int .i64 0, .int .i64 0, .slice none 0 0, .slice none 0 0] 51) := ⟨_, rfl⟩
              have hba : Below w9.heap.size w9 wa := by rw [hwa]; exact (Below.refl _ _).alloc (Nat.le_refl _) _
              have hca : Kd.C kLet wa (some ⟨w9.heap.size, 0, none⟩) 1 [(⟨1, 9, 0, 0, 0, 0, 0⟩ : FLet).d] := by rw [hwa]; exact let_C (A1 := none) (A2 := none) (c1 := 0) (c2 := 0) ⟨C_zero _ _, C_zero _ _, Nat.le_refl _, Nat.le_refl _⟩ (alloc_at w9 _)
              have HSL : Aside0 (Calls Try.prog 17 #[.slice A9 1 n9, .slice (some ⟨w9.heap.size, 0, none⟩) 1 1] wa fun e w' => e = .returned (.bool true) ∧ Below wa.heap.size wa w') := ⟨sameLetters A9 n9 [(⟨1, 9, 0, 0, 0, 0, 0⟩ : FLet).d] (some ⟨w9.heap.size, 0, none⟩) 1 [(⟨1, 9, 0, 0, 0, 0, 0⟩ : FLet).d] wa (Kd.C_below HC9.out hba) hca (by show 1 ≤ 1000000; decide) true (by simp)⟩
              have HWA := Aside0.mk hwa
              have HBA := Aside0.mk (below_then HB9.out HB9.out.size hba)
              have HMA := Aside0.mk (HM9.out.below hba)
              clear hwa hba hca
              go_wp2_with fail
              rw [show w9.alloc (.cells #[.int .i64 0, .int .i64 1, .int .i64 9, .int .i64 0, .int .i64 0, .int .i64 0, .int .i64 0, .int .i64 0, .int .i64 0, .int .i64 0, .slice none 0 0, .slice none 0 0] 51) = wa from HWA.out.symm]
              refine HSL.out.mono ?_
              rintro e wb ⟨rfl, hbb⟩
              have HBB := Aside0.mk (below_then HBA.out HBA.out.size hbb)
              have HWK : Aside0 (Calls Try.prog 18 #[.pointer (some ⟨gM, 0, none⟩)] wb fun e w' => ∃ A n, e = .returned (.slice A 0 n) ∧ Ch wb w' F9) := ⟨by
                have h := rWake (HMA.out.below hbb) 1 (by
                  constructor
                  · show (0 : Int) ≤ 0; omega
                  · show (0 : Int) ≤ 1099511627776; omega
                  · show (0 : Int) ≤ 0; omega
                  · show (0 : Int) ≤ 1; omega
                  all_goals
                    intro s hs
                    obtain ⟨b, _, rfl⟩ := List.mem_map.1 hs
                    cases b <;> simp [wonS, zeroS]) (by omega)
                rw [show wakeF c (endS (cmS np won (rp.set p true)) 1 0) = (endS (cmS np won (rp.set p true)) 1 0, []) from by unfold wakeF; rw [if_neg (by show ¬ (1 : Int) = 0; decide)]] at h
                refine h.mono ?_
                rintro e w' ⟨v, rfl, h1, h2, h3⟩
                obtain ⟨A, n, rfl, _⟩ := h2.reads
                exact ⟨A, n, rfl, h3⟩⟩
              clear hbb
              go_wp2_with fail
              refine HWK.out.mono ?_
              rintro e wc ⟨Ac, nc, rfl, hcc⟩
              have HBC : Aside0 (Below W.heap.size W wc) := ⟨Below.ch HBB.out hcc HBB.out.size HF9.out⟩
              clear hcc
              go_wp2_with fail
              refine (awake22 wc).mono ?_
              rintro e wz ⟨rfl, hbz⟩
              have HBZ := Aside0.mk (below_then HBC.out HBC.out.size hbz)
              clear hbz
              go_wp2_with fail
              go_ret
              exact ⟨rfl, HBZ.out⟩
    · obtain rfl : i = nt := by omega
      go_wp2_with fail
      refine (awake22 wr).mono ?_
      rintro e wz ⟨rfl, hbz⟩
      have HBZ := Aside0.mk (below_then HMEM.out.2.2.2.2.1 HMEM.out.2.2.2.2.1.size hbz)
      clear hbz
      go_wp2_with fail
      go_ret
      exact ⟨rfl, HBZ.out⟩
theorem masterCommits_walk (W : World) (x : CfgD) (cs : List Value) (hk : kCfg.K W x cs) (hg : GCfg x) (A1 : Option Addr) (c1 : Nat) (x1 : List Int) (hr1 : Kd.C kI W A1 x1.length x1) (hc1 : x1.length ≤ c1) (hg1 : ∀ x ∈ x1, W64 x) :
    Calls Try.prog 3 #[.agg cs.toArray, .slice A1 x1.length c1] W fun e w' => e = .returned (.bool true) ∧ Below W.heap.size W w' := by
  obtain ⟨B1, B2, B3, B4, B5, d1, d2, d3, d4, d5, rfl, hJ⟩ := kCfg_open hk
  exact masterCommits_in x.job x.workers x.tries x.timeout B1 B2 B3 B4 B5 d1 d2 d3 d4 d5 W hJ hg.1.1 A1 c1 x1 hr1
end Go.Proofs.Ytbnhhlahbhjogaa.K
