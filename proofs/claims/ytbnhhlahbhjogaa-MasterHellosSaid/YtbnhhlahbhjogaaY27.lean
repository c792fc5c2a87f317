/- The statement MasterHellos. WRITTEN BY wip/gen_y27.py. -/
import Derived.Test.YtbnhhlahbhjogaaY26
set_option linter.unusedVariables false
set_option linter.unusedSimpArgs false
set_option maxRecDepth 100000
namespace Go.Proofs.Ytbnhhlahbhjogaa.K
open Go.RowKit Go.Proofs.YtbnhhlahbhjogaaW.PrintWords Go.Proofs.YtbnhhlahbhjogaaW.PrintLast Go.Proofs.YtbnhhlahbhjogaaW.PrintMore Go.Proofs.Ytbnhhlahbhjogaa.U Go.Proofs.Ytbnhhlahbhjogaa.T

def arrI (n : Nat) (l : List Int) : List Value := (l ++ List.replicate (n - l.length) 0).map (Value.int .i64)
theorem arrI_get (n : Nat) (l : List Int) (k : Nat) (hk : k < l.length) : (arrI n l)[k]? = some (.int .i64 l[k]) := by
  unfold arrI
  rw [List.getElem?_map, List.getElem?_append_left hk, List.getElem?_eq_getElem hk]
  rfl
theorem arrI_set (n : Nat) (l : List Int) (k : Nat) (a : Int) (hk : k < l.length) : (arrI n l).set k (.int .i64 a) = arrI n (l.set k a) := by
  unfold arrI
  rw [← List.map_set, List.set_append_left _ _ hk, List.length_set]
def rdN (L : List Int) (i : Nat) : Int := if L = [] then 0 else i
theorem ints_C (w : World) (l : List Int) (hl : l.length ≤ 1000) {g : Nat} {t : TypeId} {fr : Nat × Nat} (h : w.heap[g]? = some (.cells (l.map (Value.int .i64)).toArray t fr)) : Kd.C kI w (some ⟨g, 0, none⟩) l.length l := by
  refine ⟨rfl, by omega, fun _ => ⟨_, rfl, fun j y hj => ?_⟩⟩
  refine ⟨[.int .i64 y], rfl, rfl, fun i u hu => ?_⟩
  have hi : i = 0 ∧ u = .int .i64 y := by
    cases i with
    | zero => exact ⟨rfl, by simpa using hu.symm⟩
    | succ i => simp at hu
  obtain ⟨rfl, rfl⟩ := hi
  rw [show j * kI.sz + 0 = j from Nat.mul_one j]
  refine cells_of_blk h j _ ?_
  rw [List.getElem?_map, hj]
  rfl
set_option maxHeartbeats 12800000 in
theorem masterHellos_in (j : JobD) (wk tr tmo : Int) (A1 A2 A3 A4 A5 : Option Addr) (c1 c2 c3 c4 c5 : Nat) (W : World) (hj : JobC W j A1 A2 A3 A4 A5 c1 c2 c3 c4 c5) (hgs : ∀ l ∈ j.splits, ∀ x ∈ l, GPair x) (AA : Option Addr) (cA : Nat) (ats : List Int) (has : Kd.C kI W AA ats.length ats) (pt : Int) (AS : Option Addr) (cS : Nat) (ss : List Int) (hss : Kd.C kI W AS ss.length ss) (hsc : ss.length ≤ cS) (tm : Int) :
    Calls Try.prog 4 #[.agg #[.slice A1 j.splits.length c1, .int .i64 j.parts, .slice A2 j.map.length c2, .slice A3 j.combine.length c3, .slice A4 j.reduce.length c4, .int .i64 j.chunk, .int .i64 j.window, .int .i64 j.fuel, .slice A5 j.marks.length c5, .int .i64 wk, .int .i64 tr, .int .i64 tmo], .slice AA ats.length cA, .int .i64 pt, .slice AS ss.length cS, .int .i64 tm] W fun e w' => e = .returned (.bool true) ∧ Below W.heap.size W w' := by
  obtain ⟨N, hN⟩ : ∃ N, N = j.splits.length := ⟨_, rfl⟩
  obtain ⟨g, hg⟩ : ∃ g, g = W.heap.size := ⟨_, rfl⟩
  have hmx : N ≤ 9223372036854775807 := by rw [hN]; exact Kd.C_max hj.s
  obtain ⟨w0, hw0⟩ : ∃ w0, w0 = W.alloc (.cells #[.slice A1 N c1, .int .i64 j.parts, .slice A2 j.map.length c2, .slice A3 j.combine.length c3, .slice A4 j.reduce.length c4, .int .i64 j.chunk, .int .i64 j.window, .int .i64 j.fuel, .slice A5 j.marks.length c5, .int .i64 wk, .int .i64 tr, .int .i64 tmo] 28) := ⟨_, rfl⟩
  have hb0 : Below W.heap.size W w0 := by rw [hw0]; exact (Below.refl _ _).alloc (Nat.le_refl _) _
  have hg0 : w0.heap[g]? = some (.cells ([.slice A1 N c1, .int .i64 j.parts, .slice A2 j.map.length c2, .slice A3 j.combine.length c3, .slice A4 j.reduce.length c4, .int .i64 j.chunk, .int .i64 j.window, .int .i64 j.fuel, .slice A5 j.marks.length c5, .int .i64 wk, .int .i64 tr, .int .i64 tmo] : List Value).toArray 28 (0, 0)) := by rw [hw0, hg]; exact alloc_at W _
  have hgj := greatJob j A1 A2 A3 A4 A5 c1 c2 c3 c4 c5 w0 (JobC.below hj hb0) hgs
  rw [← hN] at hgj
  have HGJ := Aside0.mk hgj
  have HJ := Aside0.mk hj
  obtain ⟨rc, hrc⟩ := bool_of (CfgMay ⟨j, wk, tr, tmo⟩)
  have HMC : Aside0 (∀ w', Below W.heap.size W w' → Calls Try.prog 10 #[.agg #[.slice A1 N c1, .int .i64 j.parts, .slice A2 j.map.length c2, .slice A3 j.combine.length c3, .slice A4 j.reduce.length c4, .int .i64 j.chunk, .int .i64 j.window, .int .i64 j.fuel, .slice A5 j.marks.length c5, .int .i64 wk, .int .i64 tr, .int .i64 tmo]] w' fun e w'' => e = .returned (.bool rc) ∧ Below w'.heap.size w' w'') := ⟨fun w' hw => by
    have h := cfgMay j wk tr tmo A1 A2 A3 A4 A5 c1 c2 c3 c4 c5 w' (JobC.below HJ.out hw) rc hrc
    rw [← hN] at h
    exact h⟩
  have HRC := Aside0.mk hrc
  have HN := Aside0.mk hN
  have HG := Aside0.mk hg
  have HW0 := Aside0.mk hw0
  have HB0 := Aside0.mk hb0
  have HG0 := Aside0.mk hg0
  have huc := Try.underlying28
  have huj := Try.underlying26
  have hul := Try.underlying51
  have hum := Try.underlying45
  have x0 : w0.cell? ⟨g, 0, none⟩ = some (.slice A1 N c1) := cell_of_blk hg0
  have x1 : w0.cell? ⟨g, 1, none⟩ = some (.int .i64 j.parts) := cell_of_blk hg0
  have x2 : w0.cell? ⟨g, 2, none⟩ = some (.slice A2 j.map.length c2) := cell_of_blk hg0
  have x3 : w0.cell? ⟨g, 3, none⟩ = some (.slice A3 j.combine.length c3) := cell_of_blk hg0
  have x4 : w0.cell? ⟨g, 4, none⟩ = some (.slice A4 j.reduce.length c4) := cell_of_blk hg0
  have x5 : w0.cell? ⟨g, 5, none⟩ = some (.int .i64 j.chunk) := cell_of_blk hg0
  have x6 : w0.cell? ⟨g, 6, none⟩ = some (.int .i64 j.window) := cell_of_blk hg0
  have x7 : w0.cell? ⟨g, 7, none⟩ = some (.int .i64 j.fuel) := cell_of_blk hg0
  have x8 : w0.cell? ⟨g, 8, none⟩ = some (.slice A5 j.marks.length c5) := cell_of_blk hg0
  have x9 : w0.cell? ⟨g, 9, none⟩ = some (.int .i64 wk) := cell_of_blk hg0
  have x10 : w0.cell? ⟨g, 10, none⟩ = some (.int .i64 tr) := cell_of_blk hg0
  have x11 : w0.cell? ⟨g, 11, none⟩ = some (.int .i64 tmo) := cell_of_blk hg0
  rw [← hN]
  clear hj hgs hN hg hw0 hb0 hg0 hgj hrc
  obtain ⟨na, hna⟩ : ∃ n, n = ats.length := ⟨_, rfl⟩
  obtain ⟨nz, hnz⟩ : ∃ n, n = ss.length := ⟨_, rfl⟩
  have hma : na ≤ 9223372036854775807 := by rw [hna]; exact Kd.C_max has
  have hmz : nz ≤ 9223372036854775807 := by rw [hnz]; exact Kd.C_max hss
  have HNA := Aside0.mk hna
  have HNZ := Aside0.mk hnz
  have HAS := Aside0.mk has
  have HSS := Aside0.mk hss
  have HSC := Aside0.mk hsc
  rw [← hna, ← hnz]
  clear hna hnz has hss hsc
  go_enter Try.func4, Try.ntmps4
  go_upto_region 1 with (fail)
  rw [show W.alloc (.cells #[.slice A1 N c1, .int .i64 j.parts, .slice A2 j.map.length c2, .slice A3 j.combine.length c3, .slice A4 j.reduce.length c4, .int .i64 j.chunk, .int .i64 j.window, .int .i64 j.fuel, .slice A5 j.marks.length c5, .int .i64 wk, .int .i64 tr, .int .i64 tmo] 28) = w0 from HW0.out.symm, ← HG.out]
  go_wp2_with fail
  refine HGJ.out.mono ?_
  rintro e w1 ⟨⟨r, rfl, -⟩, hb1⟩
  have HG1 := Aside0.mk ((hb1.block g (blk_lt' HG0.out)).trans HG0.out)
  have HB1 := Aside0.mk (below_then HB0.out HB0.out.size hb1)
  clear hb1 HGJ
  clear x0 x1 x2 x3 x4 x5 x6 x7 x8 x9 x10 x11
  have x0 : w1.cell? ⟨g, 0, none⟩ = some (.slice A1 N c1) := cell_of_blk HG1.out
  have x1 : w1.cell? ⟨g, 1, none⟩ = some (.int .i64 j.parts) := cell_of_blk HG1.out
  have x2 : w1.cell? ⟨g, 2, none⟩ = some (.slice A2 j.map.length c2) := cell_of_blk HG1.out
  have x3 : w1.cell? ⟨g, 3, none⟩ = some (.slice A3 j.combine.length c3) := cell_of_blk HG1.out
  have x4 : w1.cell? ⟨g, 4, none⟩ = some (.slice A4 j.reduce.length c4) := cell_of_blk HG1.out
  have x5 : w1.cell? ⟨g, 5, none⟩ = some (.int .i64 j.chunk) := cell_of_blk HG1.out
  have x6 : w1.cell? ⟨g, 6, none⟩ = some (.int .i64 j.window) := cell_of_blk HG1.out
  have x7 : w1.cell? ⟨g, 7, none⟩ = some (.int .i64 j.fuel) := cell_of_blk HG1.out
  have x8 : w1.cell? ⟨g, 8, none⟩ = some (.slice A5 j.marks.length c5) := cell_of_blk HG1.out
  have x9 : w1.cell? ⟨g, 9, none⟩ = some (.int .i64 wk) := cell_of_blk HG1.out
  have x10 : w1.cell? ⟨g, 10, none⟩ = some (.int .i64 tr) := cell_of_blk HG1.out
  have x11 : w1.cell? ⟨g, 11, none⟩ = some (.int .i64 tmo) := cell_of_blk HG1.out
  cases r
  case' true =>
    go_wp2_with fail
    refine (awake22 w1).mono ?_
    rintro e wz ⟨rfl, hbz⟩
    have HBZ := Aside0.mk (below_then HB1.out HB1.out.size hbz)
    clear hbz
    go_wp2_with fail
    go_ret
    exact ⟨rfl, HBZ.out⟩
  go_wp2_with fail
  refine (HMC.out w1 HB1.out).mono ?_
  rintro e w2 ⟨rfl, hb2⟩
  have HG2 := Aside0.mk ((hb2.block g (blk_lt' HG1.out)).trans HG1.out)
  have HB2 := Aside0.mk (below_then HB1.out HB1.out.size hb2)
  clear hb2 HMC
  clear x0 x1 x2 x3 x4 x5 x6 x7 x8 x9 x10 x11
  cases rc
  case' false =>
    go_wp2_with fail
    refine (awake22 w2).mono ?_
    rintro e wz ⟨rfl, hbz⟩
    have HBZ := Aside0.mk (below_then HB2.out HB2.out.size hbz)
    clear hbz
    go_wp2_with fail
    go_ret
    exact ⟨rfl, HBZ.out⟩
  have HMY : Aside0 (CfgMay ⟨j, wk, tr, tmo⟩) := ⟨HRC.out.1 rfl⟩
  obtain ⟨T, rfl⟩ : ∃ T : Nat, tmo = T := ⟨tmo.toNat, by have := HMY.out.timeout.1; dsimp only at this; omega⟩
  obtain ⟨c, hc⟩ : ∃ c : CfgD, c = ⟨j, wk, tr, T⟩ := ⟨_, rfl⟩
  have HNEW : Aside0 (Calls Try.prog 12 #[.agg #[.slice A1 N c1, .int .i64 j.parts, .slice A2 j.map.length c2, .slice A3 j.combine.length c3, .slice A4 j.reduce.length c4, .int .i64 j.chunk, .int .i64 j.window, .int .i64 j.fuel, .slice A5 j.marks.length c5, .int .i64 wk, .int .i64 tr, .int .i64 T], .slice none 0 0] w2 fun e w' => ∃ gM F, e = .returned (.tuple #[.pointer (some ⟨gM, 0, none⟩), .int .i64 0]) ∧ MaR w' gM F c (m0 c) ∧ (∀ i, F i → w2.heap.size ≤ i) ∧ Below w2.heap.size w2 w') := ⟨by
    have h := mNew ⟨j, wk, tr, T⟩ ⟨A1, A2, A3, A4, A5, c1, c2, c3, c4, c5⟩ [] none 0 w2 (JobC.below HJ.out HB2.out) HMY.out (C_zero _ _)
    dsimp only at h
    rw [← HN.out, ← hc] at h
    exact h⟩
  have HC := Aside0.mk hc
  clear hc
  have x0 : w2.cell? ⟨g, 0, none⟩ = some (.slice A1 N c1) := cell_of_blk HG2.out
  have x1 : w2.cell? ⟨g, 1, none⟩ = some (.int .i64 j.parts) := cell_of_blk HG2.out
  have x2 : w2.cell? ⟨g, 2, none⟩ = some (.slice A2 j.map.length c2) := cell_of_blk HG2.out
  have x3 : w2.cell? ⟨g, 3, none⟩ = some (.slice A3 j.combine.length c3) := cell_of_blk HG2.out
  have x4 : w2.cell? ⟨g, 4, none⟩ = some (.slice A4 j.reduce.length c4) := cell_of_blk HG2.out
  have x5 : w2.cell? ⟨g, 5, none⟩ = some (.int .i64 j.chunk) := cell_of_blk HG2.out
  have x6 : w2.cell? ⟨g, 6, none⟩ = some (.int .i64 j.window) := cell_of_blk HG2.out
  have x7 : w2.cell? ⟨g, 7, none⟩ = some (.int .i64 j.fuel) := cell_of_blk HG2.out
  have x8 : w2.cell? ⟨g, 8, none⟩ = some (.slice A5 j.marks.length c5) := cell_of_blk HG2.out
  have x9 : w2.cell? ⟨g, 9, none⟩ = some (.int .i64 wk) := cell_of_blk HG2.out
  have x10 : w2.cell? ⟨g, 10, none⟩ = some (.int .i64 tr) := cell_of_blk HG2.out
  have x11 : w2.cell? ⟨g, 11, none⟩ = some (.int .i64 T) := cell_of_blk HG2.out
  by_cases hlen : 10 < na
  case' pos =>
    have hlenI : (10 : Int) < (na : Int) := by omega
    go_wp2_with fail
    refine (awake22 w2).mono ?_
    rintro e wz ⟨rfl, hbz⟩
    have HBZ := Aside0.mk (below_then HB2.out HB2.out.size hbz)
    clear hbz
    go_wp2_with fail
    go_ret
    exact ⟨rfl, HBZ.out⟩
  have hlenI : ¬ (10 : Int) < (na : Int) := by omega
  by_cases hlez : 10 < nz
  case' pos =>
    have hlezI : (10 : Int) < (nz : Int) := by omega
    go_wp2_with fail
    refine (awake22 w2).mono ?_
    rintro e wz ⟨rfl, hbz⟩
    have HBZ := Aside0.mk (below_then HB2.out HB2.out.size hbz)
    clear hbz
    go_wp2_with fail
    go_ret
    exact ⟨rfl, HBZ.out⟩
  have hlezI : ¬ (10 : Int) < (nz : Int) := by omega
  clear hlen hlez
  go_wp2_with fail
  refine HNEW.out.mono ?_
  rintro e w3 ⟨gM, F, rfl, hM3, hF3, hb3⟩
  have HM3 := Aside0.mk hM3
  have HG3 : Aside0 (w3.heap[g]? = some (.cells ([.slice A1 N c1, .int .i64 j.parts, .slice A2 j.map.length c2, .slice A3 j.combine.length c3, .slice A4 j.reduce.length c4, .int .i64 j.chunk, .int .i64 j.window, .int .i64 j.fuel, .slice A5 j.marks.length c5, .int .i64 wk, .int .i64 tr, .int .i64 T] : List Value).toArray 28 (0, 0))) := ⟨(hb3.block g (blk_lt' HG2.out)).trans HG2.out⟩
  have HB3 := Aside0.mk (below_then HB2.out HB2.out.size hb3)
  have HFG : Aside0 (¬ F g) := ⟨fun h => by have := hF3 g h; have := blk_lt' HG2.out; omega⟩
  have HFW : Aside0 (∀ i, F i → W.heap.size ≤ i) := ⟨fun i h => Nat.le_trans HB2.out.size (hF3 i h)⟩
  have HNC : Aside0 (N = c.job.splits.length) := ⟨by rw [HC.out]; exact HN.out⟩
  have HCW : Aside0 (c.workers = wk ∧ c.tries = tr ∧ c.timeout = T ∧ c.job = j) := ⟨by rw [HC.out]; exact ⟨rfl, rfl, rfl, rfl⟩⟩
  clear hM3 hF3 hb3 HNEW HRC HG0 HB0 HW0 HG1 HB1
  clear x0 x1 x2 x3 x4 x5 x6 x7 x8 x9 x10 x11
  obtain ⟨zs, hzs⟩ : ∃ zs : Nat → Array Value, ∀ n, zs n = (List.replicate n (Value.int .i64 0)).toArray := ⟨_, fun _ => rfl⟩
  obtain ⟨np, hnp⟩ : ∃ np : Nat, j.parts = np := ⟨j.parts.toNat, by have := HMY.out.job.parts.1; dsimp only at this; omega⟩
  have hnp4 : np ≤ 4 := by have := HMY.out.job.parts.2; dsimp only at this; omega
  have hnp1 : 1 ≤ np := by have := HMY.out.job.parts.1; dsimp only at this; omega
  have hN6 : N ≤ 6 := by have := HMY.out.job.splits.2; have := HN.out; dsimp only at *; omega
  have htr1 : 1 ≤ tr := HMY.out.tries.1
  have htr3 : tr ≤ 3 := HMY.out.tries.2
  obtain ⟨p, hp⟩ : ∃ p : Nat, lowN pt j.parts = p := ⟨(lowN pt j.parts).toNat, by have := (lowN_range pt j.parts (by omega)).1; omega⟩
  have hpN : p < np := by have := (lowN_range pt j.parts (by omega)).2; omega
  have HLP : Aside0 (Calls Try.prog 13 #[.int .i64 pt, .int .i64 j.parts] w3 fun e w' => e = .returned (.int .i64 p) ∧ w' = w3) := ⟨by
    have h := low pt j.parts w3 (by omega) (by omega)
    rw [hp] at h
    exact h⟩
  have hmk : ∀ w', (Instr.makeSlice 24 (.int .i64 (np : Int)) (.int .i64 (np : Int))).run Try.prog w' = .ok (.slice (some ⟨w'.heap.size, 0, none⟩) np np) (w'.alloc (.cells (zs np) 3)) := fun w' => by
    obtain ⟨v, w'', hrun, rfl, rfl⟩ := make_runs Try.prog w' 24 3 _ 1 8 Try.underlying24 info_int rfl (by decide) .i64 .i64 (np : Int) (np : Int) np np rfl rfl (Nat.le_refl _) (by omega) (by omega)
    rw [zcells_one _ _ rfl, ← hzs np] at hrun
    exact hrun
  have x1 : w3.cell? ⟨g, 1, none⟩ = some (.int .i64 j.parts) := cell_of_blk HG3.out
  obtain ⟨gA, hgA⟩ : ∃ gA, gA = w3.heap.size := ⟨_, rfl⟩
  obtain ⟨w6, hw6⟩ : ∃ w6, w6 = w3.alloc (.cells #[.int .i64 0, .int .i64 0, .int .i64 0, .int .i64 0, .int .i64 0, .int .i64 0] 54) := ⟨_, rfl⟩
  have hb6 : Below w3.heap.size w3 w6 := by rw [hw6]; exact (Below.refl _ _).alloc (Nat.le_refl _) _
  have hs6 : w6.heap.size = w3.heap.size + 1 := by rw [hw6]; simp
  have hA6 : w6.heap[gA]? = some (.cells (arrI 6 (List.replicate N 0)).toArray 54 (0, 0)) := by
    have e : arrI 6 (List.replicate N 0) = [.int .i64 0, .int .i64 0, .int .i64 0, .int .i64 0, .int .i64 0, .int .i64 0] := by
      unfold arrI
      rw [List.length_replicate, List.replicate_append_replicate, show N + (6 - N) = 6 from by omega]
      rfl
    rw [e, hw6, hgA]
    exact alloc_at w3 _
  have hfl := HM3.out.flt
  have HM6 : Aside0 (∃ F', MaR w6 gM F' c (hlM np p (List.replicate N 0) [false, false, false, false] 0) ∧ ∀ k, F' k → F k ∨ w6.heap.size ≤ k) := ⟨⟨F, by have h := HM3.out; rw [hl_m0 c np p, ← HNC.out] at h; exact h.below hb6, fun k hk => .inl hk⟩⟩
  have HMEM6 : Aside0 (w6.heap[g]? = some (.cells ([.slice A1 N c1, .int .i64 j.parts, .slice A2 j.map.length c2, .slice A3 j.combine.length c3, .slice A4 j.reduce.length c4, .int .i64 j.chunk, .int .i64 j.window, .int .i64 j.fuel, .slice A5 j.marks.length c5, .int .i64 wk, .int .i64 tr, .int .i64 T] : List Value).toArray 28 (0, 0)) ∧ w6.heap[gA]? = some (.cells (arrI 6 (List.replicate N 0)).toArray 54 (0, 0)) ∧ Below W.heap.size W w6 ∧ w6.heap.size ≤ w6.heap.size) := ⟨⟨(hb6.block g (blk_lt' HG3.out)).trans HG3.out, hA6, below_then HB3.out HB3.out.size hb6, Nat.le_refl _⟩⟩
  have HOUT : Aside0 (¬ F gA ∧ g < w6.heap.size ∧ gA < w6.heap.size ∧ g < gA ∧ W.heap.size ≤ gA) := ⟨by
    have h1 := blk_lt' HG3.out
    have h2 := HB3.out.size
    exact ⟨fun h => by have := hfl _ h; omega, by omega, by omega, by omega, by omega⟩⟩
  have HNP := Aside0.mk hnp
  have HNP4 := Aside0.mk hnp4
  have HPN := Aside0.mk hpN
  have HZS := Aside0.mk hzs
  have HW6 := Aside0.mk hw6
  have HGA := Aside0.mk hgA
  clear hgA hw6 hb6 hs6 hA6 hfl hnp hp hzs HB2 HG2
  go_wp2_with fail
  refine HLP.out.mono ?_
  rintro e w3 ⟨rfl, rfl⟩
  go_upto_region 8 with (fail)
  rw [show w3.alloc (.cells #[.int .i64 0, .int .i64 0, .int .i64 0, .int .i64 0, .int .i64 0, .int .i64 0] 54) = w6 from HW6.out.symm, ← HGA.out]
  clear x1
  obtain ⟨M, hM⟩ : ∃ M, M = min N na := ⟨_, rfl⟩
  have hMN : M ≤ N := by omega
  go_wp2_with fail
  go_loopg [14, 15, 16] M (fun kq v14 v15 v16 w' => ∃ (s : Nat) (tt : List Int), s + kq = M ∧ v14 = .int .i64 s ∧ Aside0 (tt.length = N) ∧ Aside0 (∀ k, s ≤ k → tt.getD k 0 = 0) ∧ Aside0 (∃ F', MaR w' gM F' c (hlM np p tt [false, false, false, false] 0) ∧ ∀ k, F' k → F k ∨ w6.heap.size ≤ k) ∧ Aside0 (w'.heap[g]? = some (.cells ([.slice A1 N c1, .int .i64 j.parts, .slice A2 j.map.length c2, .slice A3 j.combine.length c3, .slice A4 j.reduce.length c4, .int .i64 j.chunk, .int .i64 j.window, .int .i64 j.fuel, .slice A5 j.marks.length c5, .int .i64 wk, .int .i64 tr, .int .i64 T] : List Value).toArray 28 (0, 0)) ∧ w'.heap[gA]? = some (.cells (arrI 6 tt).toArray 54 (0, 0)) ∧ Below W.heap.size W w' ∧ w6.heap.size ≤ w'.heap.size))
  case atStart => exact ⟨0, List.replicate N 0, by omega, rfl, ⟨List.length_replicate ..⟩, ⟨fun k _ => by rw [List.getD_eq_getElem?_getD, List.getElem?_replicate]; split <;> rfl⟩, HM6, HMEM6⟩
  case round =>
    obtain ⟨s, tt, hsq, rfl, HTL, HT0, HMK, HMEM⟩ := hrel
    have x0 : wr.cell? ⟨g, 0, none⟩ = some (.slice A1 N c1) := cell_of_blk HMEM.out.1
    by_cases hlt : s < M
    · have hsN : s < N := by omega
      have hsa : s < na := by omega
      have hsNI : (s : Int) < N := by omega
      have hsaI : (s : Int) < na := by omega
      have hs0 : (0 : Int) ≤ (s : Int) := by omega
      have hs6 : (s : Int) < 6 := by omega
      have hpI : (p : Int) < np := by omega
      have hp0 : (0 : Int) ≤ (p : Int) := by omega
      have hil : s < ats.length := by rw [← HNA.out]; exact hsa
      obtain ⟨ad, rfl, hcx⟩ := at_intz (Kd.C_below HAS.out HMEM.out.2.2.1) s hil
      obtain ⟨y, hy⟩ : ∃ y, y = ats[s] := ⟨_, rfl⟩
      rw [← hy] at hcx
      obtain ⟨a, ha⟩ : ∃ a, lowN y (tr + 1) = a := ⟨_, rfl⟩
      have har := lowN_range y (tr + 1) (by omega)
      rw [ha] at har
      have HAR : Aside0 (0 ≤ a ∧ a ≤ tr) := ⟨⟨har.1, by omega⟩⟩
      have hh0 : HeldN wr wr := Below.refl _ _
      have hhd : ∀ w', HeldN wr w' → HeldN wr w'.drew := fun w' h => h.then_ (below_drew w')
      have HK0 : Aside0 (∀ w', HeldN wr w' → w'.cell? (ad.add s) = some (.int .i64 y) ∧ w'.cell? ⟨g, 10, none⟩ = some (.int .i64 tr)) := ⟨fun w' hw => ⟨(Ch.of_below hw (fun _ => False)).cell hcx (fun h => h), cell_of_blk ((hw.block g (blk_lt' HMEM.out.1)).trans HMEM.out.1)⟩⟩
      have HWR : Aside0 (IntKind.i64.wrap (tr + 1) = tr + 1) := ⟨IntWalk.i64_in _ (by omega)⟩
      have HLO : Aside0 (∀ w', HeldN wr w' → Calls Try.prog 13 #[.int .i64 y, .int .i64 (tr + 1)] w' fun e w'' => e = .returned (.int .i64 a) ∧ HeldN wr w'') := ⟨fun w' hw => by
        have h := low y (tr + 1) w' (by omega) (by omega)
        rw [ha] at h
        exact h.mono (fun e w'' h => ⟨h.1, by rw [h.2]; exact hw⟩)⟩
      clear hy ha har
      go_wp2_with fail
      go_upto_region 11 with (fail)
      go_region_held_law (fun w' => w'.cell? (ad.add s) = some (.int .i64 y) ∧ w'.cell? ⟨g, 10, none⟩ = some (.int .i64 tr)) (first | assumption | exact HK0.out _ (by first | assumption | exact hhd _ hh0))
        (first | (go_at_call 13; (try rw [HWR.out]); ((with_reducible refine (HLO.out _ (by first | assumption | exact hhd _ hh0)).mono ?_); rintro e w5 ⟨rfl, hH5⟩)))
      all_goals
        have HH5 := Aside0.mk hH5
        have hMEM5 := HMEM.out
        have x1 : w5.cell? ⟨g, 1, none⟩ = some (.int .i64 (np : Int)) := by rw [← HNP.out]; exact cell_of_blk ((HH5.out.block g (blk_lt' HMEM.out.1)).trans HMEM.out.1)
        obtain ⟨gC, hgC⟩ : ∃ gC, gC = w5.heap.size := ⟨_, rfl⟩
        have hz5 : (w5.alloc (.cells (zs np) 3)).heap[w5.heap.size]? = some (.cells (List.replicate np (Value.int .i64 0)).toArray 3 (0, 0)) := by rw [HZS.out np]; exact alloc_at w5 _
        have kc : (w5.alloc (.cells (zs np) 3)).cell? ⟨w5.heap.size, p, none⟩ = some (.int .i64 0) := by rw [cell_of_blk hz5, List.getElem?_replicate, if_pos HPN.out]
        have kf : (w5.alloc (.cells (zs np) 3)).frozen? ⟨w5.heap.size, p, none⟩ = false := frozen_of_blk hz5
        have hPC : (⟨w5.heap.size, 0, none⟩ : Addr).add p = ⟨w5.heap.size, p, none⟩ := by rw [add_plain]
        obtain ⟨w8, hw8⟩ : ∃ w8, w8 = w5.alloc (.cells ((zs np).setIfInBounds p (.int .i64 ((10 : Int) + (s : Int)))) 3) := ⟨_, rfl⟩
        have hb8 : Below w5.heap.size w5 w8 := by rw [hw8]; exact (Below.refl _ _).alloc (Nat.le_refl _) _
        have hc8 : w8.heap[gC]? = some (.cells ((cnt np p s).map (Value.int .i64)).toArray 3 (0, 0)) := by
          rw [hw8, hgC]
          unfold cnt
          rw [List.map_set, List.map_replicate, ← List.setIfInBounds_toArray, ← HZS.out np]
          exact alloc_at w5 _
        have HB8 := Aside0.mk hb8
        have HC8 := Aside0.mk hc8
        have HW8 := Aside0.mk hw8
        have HGC := Aside0.mk hgC
        obtain ⟨F', hM', hFF'⟩ := HMK.out
        have HFF := Aside0.mk hFF'
        have hr8 : HeldN wr w8 := HH5.out.then_ hb8
        have HM8 := Aside0.mk (hM'.below hr8)
        have hF'8 : ∀ k, F' k → k < wr.heap.size := hM'.flt
        have HSTEP : Aside0 (∀ w', Ch w8 w' F' → (w'.heap[g]? = some (.cells ([.slice A1 N c1, .int .i64 j.parts, .slice A2 j.map.length c2, .slice A3 j.combine.length c3, .slice A4 j.reduce.length c4, .int .i64 j.chunk, .int .i64 j.window, .int .i64 j.fuel, .slice A5 j.marks.length c5, .int .i64 wk, .int .i64 tr, .int .i64 T] : List Value).toArray 28 (0, 0)) ∧ w'.heap[gA]? = some (.cells (arrI 6 tt).toArray 54 (0, 0)) ∧ Below W.heap.size W w' ∧ w6.heap.size ≤ w'.heap.size)) := ⟨fun w' hc => by
          have ho := HOUT.out
          have hm := HMEM.out
          have hn : ∀ k, k < w6.heap.size → ¬ F k → ¬ F' k := fun k h1 h2 h3 => by
            rcases HFF.out k h3 with h | h
            · exact h2 h
            · omega
          have hcc : Ch wr w' F' := (Ch.of_below hr8 F').trans hc (fun _ _ h => h)
          exact ⟨hcc.blk hm.1 (hn _ ho.2.1 HFG.out), hcc.blk hm.2.1 (hn _ ho.2.2.1 ho.1), Below.ch hm.2.2.1 hcc hm.2.2.1.size (fun k hk => by
            rcases HFF.out k hk with h | h
            · exact HFW.out k h
            · exact Nat.le_trans HMEM6.out.2.2.1.size h), Nat.le_trans hm.2.2.2 hcc.size⟩⟩
        have HX : Aside0 (∀ w', Ch w8 w' F' → MsgC w' (hdoneX np p s a) (some ⟨gC, 0, none⟩) none np 0) := ⟨fun w' hc => ⟨ints_C w' (cnt np p s) (by rw [cnt_len]; have := HNP4.out; omega) (hc.blk HC8.out (fun h => by have := hF'8 _ h; have := HH5.out.size; have := HGC.out; omega)), C_zero _ _, by show (cnt np p s).length ≤ np; rw [cnt_len]; exact Nat.le_refl _, Nat.le_refl _⟩⟩
        have HHR : Aside0 (Calls Try.prog 14 #[.pointer (some ⟨gM, 0, none⟩), .int .i64 1, .agg #[.int .i64 4, .int .i64 s, .int .i64 a, .int .i64 0, .int .i64 0, .int .i64 0, .int .i64 0, .int .i64 0, .slice (some ⟨gC, 0, none⟩) np np, .slice none 0 0]] w8 fun e w' => ∃ v1 v2, e = .returned (.tuple #[v1, v2]) ∧ Aside0 (∃ F2, MaR w' gM F2 c (hlM np p (tt.set s a) [false, false, false, false] 0) ∧ (∀ k, F2 k → F' k ∨ w8.heap.size ≤ k) ∧ Ch w8 w' F')) := ⟨by
          obtain ⟨rs, he⟩ := hl_done c np p tt [false, false, false, false] 0 s a (by rw [HTL.out]; exact hsN) (by omega) (HT0.out s (Nat.le_refl _)) HAR.out.1 (by rw [HCW.out.2.1]; exact HAR.out.2) (by rw [HCW.out.2.2.2]; exact HNP.out) (by rw [HCW.out.1]; exact HMY.out.workers.1)
          have h := rHear HM8.out 1 (hdoneX np p s a) (some ⟨gC, 0, none⟩) none np 0 HX.out (by show (0 : Int) ≤ 0; omega) (by show (0 : Int) ≤ 1000000; omega)
          rw [he, show (hdoneX np p s a).set.length = np from cnt_len ..] at h
          refine h.mono ?_
          rintro e w' ⟨v1, v2, rfl, F2, B2, k1, k2, _, _, _, _, k7⟩
          exact ⟨v1, v2, rfl, ⟨F2, k1, k2, k7⟩⟩⟩
        clear hw8 hb8 hc8 hgC hz5 hM' hFF' hr8 hF'8 hMEM5 HK0 HLO hh0 hhd hH5 hcx x0
        go_upto_region 14 with (fail)
        rw [show w5.alloc (.cells ((zs np).setIfInBounds p (.int .i64 ((10 : Int) + (s : Int)))) 3) = w8 from HW8.out.symm, ← HGC.out]
        clear kc kf hPC x1
        go_wp2_with fail
        refine HHR.out.mono ?_
        rintro e w9 ⟨v1, v2, rfl, h9⟩
        obtain ⟨F2, hM9, hF9, hc9⟩ := h9.out
        have HM9 := Aside0.mk hM9
        have HF9 : Aside0 (∀ k, F2 k → F k ∨ w6.heap.size ≤ k) := ⟨fun k hk => by
          rcases hF9 k hk with h | h
          · exact HFF.out k h
          · exact .inr (Nat.le_trans HMEM.out.2.2.2 (Nat.le_trans (HH5.out.then_ HB8.out).size h))⟩
        have HMEM9 := Aside0.mk (HSTEP.out w9 hc9)
        have HSL : Aside0 (s < tt.length) := ⟨by rw [HTL.out]; exact hsN⟩
        have y1 : w9.cell? ⟨gA, s, none⟩ = some (.int .i64 (tt[s]'HSL.out)) := by rw [cell_of_blk HMEM9.out.2.1, arrI_get]
        have yz : w9.frozen? ⟨gA, s, none⟩ = false := frozen_of_blk HMEM9.out.2.1
        have hPA : (⟨gA, 0, none⟩ : Addr).add s = ⟨gA, s, none⟩ := by rw [add_plain]
        have HFIN : Aside0 (∀ w7, w7 = w9.setCell ⟨gA, s, none⟩ (.int .i64 a) → (∃ F', MaR w7 gM F' c (hlM np p (tt.set s a) [false, false, false, false] 0) ∧ ∀ k, F' k → F k ∨ w6.heap.size ≤ k) ∧ (w7.heap[g]? = some (.cells ([.slice A1 N c1, .int .i64 j.parts, .slice A2 j.map.length c2, .slice A3 j.combine.length c3, .slice A4 j.reduce.length c4, .int .i64 j.chunk, .int .i64 j.window, .int .i64 j.fuel, .slice A5 j.marks.length c5, .int .i64 wk, .int .i64 tr, .int .i64 T] : List Value).toArray 28 (0, 0)) ∧ w7.heap[gA]? = some (.cells (arrI 6 (tt.set s a)).toArray 54 (0, 0)) ∧ Below W.heap.size W w7 ∧ w6.heap.size ≤ w7.heap.size)) := ⟨fun w7 h7 => by
          have hc : Ch w9 w7 (fun k => k = gA) := by rw [h7]; exact (Ch.refl w9 (fun k => k = gA)).setCell _ _ rfl
          have ho := HOUT.out
          have hm := HMEM9.out
          refine ⟨⟨F2, HM9.out.ch hc (fun k hk e => by
            rcases HF9.out k hk with h | h
            · rw [e] at h; exact ho.1 h
            · omega), HF9.out⟩, hc.blk hm.1 (by omega), ?_, Below.ch hm.2.2.1 hc hm.2.2.1.size (fun k e => by omega), Nat.le_trans hm.2.2.2 hc.size⟩
          rw [h7, ← arrI_set 6 tt s a HSL.out]
          exact setCell_blk hm.2.1 _⟩
        clear h9 hM9 hF9 hc9 HHR HX HSTEP HM8
        go_wp2_with fail
        go_roundg (M - (s + 1))
        case measure => omega
        case rel => exact ⟨s + 1, tt.set s a, by omega, by go_num, ⟨by rw [List.length_set]; exact HTL.out⟩, ⟨fun k hk => by rw [List.getD_eq_getElem?_getD, List.getElem?_set_ne (by omega), ← List.getD_eq_getElem?_getD]; exact HT0.out k (by omega)⟩, ⟨(HFIN.out _ rfl).1⟩, ⟨(HFIN.out _ rfl).2⟩⟩
    · have hsM : s = M := by omega
      have HSTOP : Aside0 True := ⟨trivial⟩
      by_cases hsn : s < N
      case' pos =>
        have hsa : ¬ ((s : Int) < (na : Int)) := by omega
        have hsNI : (s : Int) < (N : Int) := by omega
      case' neg =>
        have hsNI : ¬ ((s : Int) < (N : Int)) := by omega
      all_goals
        go_wp2_with fail
        clear x0 hsNI hlt hmk
        obtain ⟨LM, hLM⟩ : ∃ LM : Nat, lowN tm 6 = LM := ⟨(lowN tm 6).toNat, by have := (lowN_range tm 6 (by omega)).1; omega⟩
        have hLM5 : LM ≤ 5 := by have := (lowN_range tm 6 (by omega)).2; omega
        have HLT : Aside0 (∀ w', Calls Try.prog 13 #[.int .i64 tm, .int .i64 6] w' fun e w'' => e = .returned (.int .i64 LM) ∧ w'' = w') := ⟨fun w' => by
          have h := low tm 6 w' (by omega) (by omega)
          rw [hLM] at h
          exact h⟩
        have HK0 : Aside0 (∃ F', MaR wr gM F' c (hlM np p tt [false, false, false, false] (rdN (lk np p tt ss N) 0)) ∧ ∀ k, F' k → F k ∨ w6.heap.size ≤ k) := ⟨by
          obtain ⟨F', h1, h2⟩ := HMK.out
          exact ⟨F', by rw [show rdN (lk np p tt ss N) 0 = 0 from by unfold rdN; split <;> rfl]; exact h1, h2⟩⟩
        clear hLM
        go_loopg [17, 18, 19, 20, 21, 22] (LM + 1) (fun kq v17 v18 v19 v20 v21 v22 w' => ∃ (i : Nat), i + kq = LM + 1 ∧ v17 = .int .i64 i ∧ Aside0 (∃ F', MaR w' gM F' c (hlM np p tt [false, false, false, false] (rdN (lk np p tt ss N) i)) ∧ ∀ k, F' k → F k ∨ w6.heap.size ≤ k) ∧ Aside0 (w'.heap[g]? = some (.cells ([.slice A1 N c1, .int .i64 j.parts, .slice A2 j.map.length c2, .slice A3 j.combine.length c3, .slice A4 j.reduce.length c4, .int .i64 j.chunk, .int .i64 j.window, .int .i64 j.fuel, .slice A5 j.marks.length c5, .int .i64 wk, .int .i64 tr, .int .i64 T] : List Value).toArray 28 (0, 0)) ∧ w'.heap[gA]? = some (.cells (arrI 6 tt).toArray 54 (0, 0)) ∧ Below W.heap.size W w' ∧ w6.heap.size ≤ w'.heap.size))
        case atStart => exact ⟨0, by omega, rfl, HK0, HMEM⟩
        case round =>
          clear HMK HMEM HK0
          obtain ⟨i, hi, rfl, HMK, HMEM⟩ := hrel
          go_wp2_with fail
          refine (HLT.out wr).mono ?_
          rintro e wr ⟨rfl, rfl⟩
          by_cases hil : i ≤ LM
          · have hilI : (i : Int) ≤ (LM : Int) := by omega
            have hi0 : (0 : Int) ≤ (i : Int) := by omega
            obtain ⟨F', hM', hFF'⟩ := HMK.out
            have HFF := Aside0.mk hFF'
            have HM := Aside0.mk hM'
            have HCC : Aside0 (∀ w', Ch wr w' F' → (w'.heap[g]? = some (.cells ([.slice A1 N c1, .int .i64 j.parts, .slice A2 j.map.length c2, .slice A3 j.combine.length c3, .slice A4 j.reduce.length c4, .int .i64 j.chunk, .int .i64 j.window, .int .i64 j.fuel, .slice A5 j.marks.length c5, .int .i64 wk, .int .i64 tr, .int .i64 T] : List Value).toArray 28 (0, 0)) ∧ w'.heap[gA]? = some (.cells (arrI 6 tt).toArray 54 (0, 0)) ∧ Below W.heap.size W w' ∧ w6.heap.size ≤ w'.heap.size)) := ⟨fun w' hc => by
              have ho := HOUT.out
              have hm := HMEM.out
              have hn : ∀ k, k < w6.heap.size → ¬ F k → ¬ F' k := fun k h1 h2 h3 => by
                rcases HFF.out k h3 with h | h
                · exact h2 h
                · omega
              exact ⟨hc.blk hm.1 (hn _ ho.2.1 HFG.out), hc.blk hm.2.1 (hn _ ho.2.2.1 ho.1), Below.ch hm.2.2.1 hc hm.2.2.1.size (fun k hk => by
                rcases HFF.out k hk with h | h
                · exact HFW.out k h
                · exact Nat.le_trans HMEM6.out.2.2.1.size h), Nat.le_trans hm.2.2.2 hc.size⟩⟩
            obtain ⟨OUT, hOUT⟩ : ∃ OUT, OUT = hlOut c np p tt ss (rdN (lk np p tt ss N) i) := ⟨_, rfl⟩
            obtain ⟨no, hno⟩ : ∃ no, no = OUT.length := ⟨_, rfl⟩
            have HHL : Aside0 (Calls Try.prog 14 #[.pointer (some ⟨gM, 0, none⟩), .int .i64 1, .agg #[.int .i64 6, .int .i64 0, .int .i64 0, .int .i64 p, .int .i64 0, .int .i64 0, .int .i64 0, .int .i64 0, .slice AS nz cS, .slice none 0 0]] wr fun e w' => ∃ AL nL AR nR, e = .returned (.tuple #[.slice AL no nL, .slice AR 0 nR]) ∧ Aside0 (∃ F2, MaR w' gM F2 c (hlM np p tt [false, false, false, false] (rdN (lk np p tt ss N) (i + 1))) ∧ (∀ k, F2 k → F' k ∨ wr.heap.size ≤ k) ∧ Ch wr w' F' ∧ Kd.C kLet w' AL no (OUT.map FLet.d))) := ⟨by
              have h := rHear HM.out 1 (helloX p ss) AS none cS 0 (fun w' hc => ⟨Kd.C_below HSS.out (HCC.out w' hc).2.2.1, C_zero _ _, HSC.out, Nat.le_refl _⟩) (by show (0 : Int) ≤ rdN _ i; unfold rdN; split <;> omega) (by show rdN _ i ≤ (1000000 : Int); unfold rdN; split <;> omega)
              rw [hl_hello c np p tt ss _ _ HPN.out (by rw [HCW.out.2.2.2]; exact HNP.out) (by rw [HCW.out.1]; exact HMY.out.workers.1), ← hOUT, show (helloX p ss).set.length = nz from HNZ.out.symm] at h
              refine h.mono ?_
              rintro e w' ⟨v1, v2, rfl, hP⟩
              obtain ⟨F2, B2, AL, nL, AR, nR, rfl, rfl, k1, _, k3, k4, _, _, _, _, k9⟩ := hP.parts
              rw [← hno] at k1 ⊢
              refine ⟨AL, nL, AR, nR, rfl, ⟨F2, ?_, k4, k9, k1⟩⟩
              have e : hlNext np p tt ss [false, false, false, false] (rdN (lk np p tt ss N) i) = rdN (lk np p tt ss N) (i + 1) := by
                unfold hlNext rdN
                rw [HTL.out]
                by_cases hz : lk np p tt ss N = []
                · rw [if_pos hz, if_pos hz, if_pos hz]
                · rw [if_neg hz, if_neg hz, if_neg hz]
                  omega
              rw [← e]
              exact k3⟩
            have HNO := Aside0.mk hno
            have HOT := Aside0.mk hOUT
            clear hM' hFF' hno hOUT
            go_wp2_with fail
            refine HHL.out.mono ?_
            rintro e w5 ⟨AL, nL, AR, nR, rfl, h5⟩
            obtain ⟨F2, hM5, hF5, hc5, hC5⟩ := h5.out
            have HM5 : Aside0 (∃ F', MaR w5 gM F' c (hlM np p tt [false, false, false, false] (rdN (lk np p tt ss N) (i + 1))) ∧ ∀ k, F' k → F k ∨ w6.heap.size ≤ k) := ⟨⟨F2, hM5, fun k hk => by
              rcases hF5 k hk with h | h
              · exact HFF.out k h
              · exact .inr (Nat.le_trans HMEM.out.2.2.2 h)⟩⟩
            have HMEM5 := Aside0.mk (HCC.out w5 hc5)
            have HC5 := Aside0.mk hC5
            clear h5 hM5 hF5 hc5 hC5 HHL HCC HM HFF HMK HMEM
            go_wp2_with fail
            go_loopg [20, 21, 22] N (fun kq v20 v21 v22 w' => ∃ (s : Nat) (A7 : Option Addr) (n7 l7 : Nat), s + kq = N ∧ v22 = .int .i64 s ∧ v21 = .int .i64 (firstI (lk np p tt ss s)) ∧ v20 = .slice A7 l7 n7 ∧ Aside0 (l7 = (lk np p tt ss s).length ∧ l7 ≤ s) ∧ Aside0 (LetsP w' w5.heap.size (.slice A7 l7 n7) ((lk np p tt ss s).map (wantL tt p))) ∧ Aside0 (HeldN w5 w'))
            case atStart => exact ⟨0, none, 0, 0, by omega, rfl, rfl, rfl, ⟨rfl, by omega⟩, ⟨LetsP.nil _ _⟩, ⟨Below.refl _ _⟩⟩
            case round =>
              obtain ⟨s, A7, n7, l7, hsq, rfl, rfl, rfl, HL7, HLE, HBW⟩ := hrel
              have HMEMr : Aside0 (wr.heap[g]? = some (.cells ([.slice A1 N c1, .int .i64 j.parts, .slice A2 j.map.length c2, .slice A3 j.combine.length c3, .slice A4 j.reduce.length c4, .int .i64 j.chunk, .int .i64 j.window, .int .i64 j.fuel, .slice A5 j.marks.length c5, .int .i64 wk, .int .i64 tr, .int .i64 T] : List Value).toArray 28 (0, 0)) ∧ wr.heap[gA]? = some (.cells (arrI 6 tt).toArray 54 (0, 0)) ∧ Below W.heap.size W wr ∧ w6.heap.size ≤ wr.heap.size) := ⟨⟨(HBW.out.block _ (blk_lt' HMEM5.out.1)).trans HMEM5.out.1, (HBW.out.block _ (blk_lt' HMEM5.out.2.1)).trans HMEM5.out.2.1, below_then HMEM5.out.2.2.1 HMEM5.out.2.2.1.size HBW.out, Nat.le_trans HMEM5.out.2.2.2 HBW.out.size⟩⟩
              have x0 : wr.cell? ⟨g, 0, none⟩ = some (.slice A1 N c1) := cell_of_blk HMEMr.out.1
              by_cases hsN : s < N
              · have hsNI : (s : Int) < N := by omega
                have hs0 : (0 : Int) ≤ (s : Int) := by omega
                have hs6 : (s : Int) < 6 := by omega
                have HSL : Aside0 (s < tt.length) := ⟨by rw [HTL.out]; exact hsN⟩
                obtain ⟨ts, hts⟩ : ∃ ts, ts = tt[s]'HSL.out := ⟨_, rfl⟩
                have HTS : Aside0 (tt.getD s 0 = ts) := ⟨by rw [hts, List.getD_eq_getElem?_getD, List.getElem?_eq_getElem HSL.out]; rfl⟩
                have y1 : wr.cell? ⟨gA, s, none⟩ = some (.int .i64 ts) := by rw [cell_of_blk HMEMr.out.2.1, arrI_get _ _ _ HSL.out, hts]
                have hPA : (⟨gA, 0, none⟩ : Addr).add s = ⟨gA, s, none⟩ := by rw [add_plain]
                have HLS := Aside0.mk (lk_succ np p tt ss s HSL.out)
                clear hts
                by_cases h0 : ts = 0
                · have HUP : Aside0 (lk np p tt ss (s + 1) = lk np p tt ss s) := ⟨by rw [HLS.out, if_pos (.inl (by rw [HTS.out]; exact h0))]⟩
                  rw [h0] at y1
                  clear h0
                  go_wp2_with fail
                  go_roundg (N - (s + 1))
                  case measure => omega
                  case rel => exact ⟨s + 1, A7, n7, l7, by omega, by go_num, by rw [HUP.out], rfl, ⟨by rw [HUP.out]; exact HL7.out.1, by have := HL7.out.2; omega⟩, ⟨by rw [HUP.out]; exact HLE.out⟩, HBW⟩
                · have h0b : (ts == 0) = false := by simpa using h0
                  obtain ⟨rc, hrc⟩ := bool_of ((s : Int) ∈ ss)
                  have HHS : Aside0 (Calls Try.prog 19 #[.slice AS nz cS, .int .i64 s] wr fun e w' => e = .returned (.bool rc) ∧ w' = wr) := ⟨by
                    have h := has_ AS cS ss s wr (Kd.C_below HSS.out HMEMr.out.2.2.1) rc hrc
                    rw [← HNZ.out] at h
                    exact h⟩
                  have HT0 : Aside0 (¬ ts = 0) := ⟨h0⟩
                  have HRC := Aside0.mk hrc
                  clear h0 hrc
                  go_wp2_with fail
                  refine HHS.out.mono ?_
                  rintro e wr ⟨rfl, rfl⟩
                  cases rc with
                  | true =>
                    have HUP : Aside0 (lk np p tt ss (s + 1) = lk np p tt ss s) := ⟨by rw [HLS.out, if_pos (.inr (HRC.out.1 rfl))]⟩
                    go_wp2_with fail
                    go_roundg (N - (s + 1))
                    case measure => omega
                    case rel => exact ⟨s + 1, A7, n7, l7, by omega, by go_num, by rw [HUP.out], rfl, ⟨by rw [HUP.out]; exact HL7.out.1, by have := HL7.out.2; omega⟩, ⟨by rw [HUP.out]; exact HLE.out⟩, HBW⟩
                  | false =>
                    have HUP : Aside0 (lk np p tt ss (s + 1) = lk np p tt ss s ++ [(s : Int)]) := ⟨by rw [HLS.out, if_neg (by rw [HTS.out]; rintro (h | h); exact HT0.out h; exact absurd (HRC.out.2 h) (by decide))]⟩
                    have HSN : Aside0 (firstI (lk np p tt ss (s + 1)) = if lk np p tt ss s = [] then (s : Int) else firstI (lk np p tt ss s)) := ⟨by rw [HUP.out, firstI_snoc]⟩
                    have HFZ : Aside0 (fz (wantL tt p s) = fz ⟨1, 7, s, ts, p, 10 + s, 0⟩) := ⟨by unfold wantL; rw [Int.toNat_natCast, HTS.out]⟩
                    have hlt7 : ((lk np p tt ss s).map (wantL tt p)).length = l7 := by rw [List.length_map]; exact HL7.out.1.symm
                    have HLA : Aside0 (∀ ty, Runs Try.prog (Builtin.append_ #[39, 39] ty #[.slice A7 l7 n7, .slice (some ⟨wr.heap.size, 0, none⟩) 1 1]) (wr.alloc (.cells #[.int .i64 0, .int .i64 1, .int .i64 7, .int .i64 s, .int .i64 ts, .int .i64 p, .int .i64 0, .int .i64 ((10 : Int) + (s : Int)), .int .i64 0, .int .i64 0, .slice none 0 0, .slice none 0 0] 51)) fun v w9 => ∃ A8 n8, v = .slice A8 (l7 + 1) n8 ∧ Aside0 (LetsP w9 w5.heap.size (.slice A8 (l7 + 1) n8) ((lk np p tt ss (s + 1)).map (wantL tt p)) ∧ HeldN w5 w9)) := ⟨fun ty => by
                      refine (lets_app wr w5.heap.size (.slice A7 l7 n7) _ (wantL tt p s) HLE.out HBW.out.size (by rw [hlt7]; have := HL7.out.2; omega) _ (by rw [HFZ.out]; rfl) ty).mono ?_
                      rintro v w9 ⟨hO9, hc9⟩
                      obtain ⟨A8, n8, rfl, _⟩ := hO9.reads
                      rw [List.length_append, hlt7, List.length_singleton] at hO9 ⊢
                      refine ⟨A8, n8, rfl, ⟨by rw [HUP.out, List.map_append]; exact hO9, Below.ch HBW.out hc9 HBW.out.size (fun i hi => Own.base_ HLE.out i hi)⟩⟩⟩
                    clear hlt7
                    have HL9 : Aside0 (l7 + 1 = (lk np p tt ss (s + 1)).length ∧ l7 + 1 ≤ s + 1) := ⟨by rw [HUP.out, List.length_append, ← HL7.out.1]; rfl, by have := HL7.out.2; omega⟩
                    clear x0
                    cases hL : lk np p tt ss s with
                    | nil =>
                      have HFK : Aside0 (firstI (lk np p tt ss (s + 1)) = s) := ⟨by rw [HSN.out, if_pos hL]⟩
                      rw [show firstI [] = -1 from rfl]
                      clear hL
                      go_wp2_with (at_builtin; refine wpList_append_runs rfl _ _ _ _ rfl _ _ rfl rfl (HLA.out _) ?_; rintro v2 w9 ⟨A8, n8, rfl, hA8⟩; have HLE9 := Aside0.mk hA8.out.1; have HBW9 := Aside0.mk hA8.out.2; clear hA8)
                      go_roundg (N - (s + 1))
                      case measure => omega
                      case rel => exact ⟨s + 1, A8, n8, l7 + 1, by omega, by go_num, by rw [HFK.out], rfl, HL9, HLE9, HBW9⟩
                    | cons a0 l0 =>
                      obtain ⟨j0, rfl, _, _⟩ := lk_mem np p tt ss s (Nat.le_of_lt HSL.out) a0 (by rw [hL]; exact List.mem_cons_self ..)
                      have HFK : Aside0 (firstI (lk np p tt ss (s + 1)) = (j0 : Int)) := ⟨by rw [HSN.out, if_neg (by rw [hL]; simp), hL]; rfl⟩
                      rw [show firstI ((j0 : Int) :: l0) = (j0 : Int) from rfl]
                      have hj00 : ¬ ((j0 : Int) < 0) := by omega
                      clear hL
                      go_wp2_with (at_builtin; refine wpList_append_runs rfl _ _ _ _ rfl _ _ rfl rfl (HLA.out _) ?_; rintro v2 w9 ⟨A8, n8, rfl, hA8⟩; have HLE9 := Aside0.mk hA8.out.1; have HBW9 := Aside0.mk hA8.out.2; clear hA8)
                      go_roundg (N - (s + 1))
                      case measure => omega
                      case rel => exact ⟨s + 1, A8, n8, l7 + 1, by omega, by go_num, by rw [HFK.out], rfl, HL9, HLE9, HBW9⟩
              · obtain rfl : N = s := by omega
                clear hsN
                cases hL : lk np p tt ss N with
                | nil =>
                  have HOE : Aside0 (OUT = []) := ⟨by rw [HOT.out]; unfold hlOut; rw [HTL.out, hL]; rfl⟩
                  obtain ⟨AW, nW, eW, hCW⟩ := HLE.out.reads
                  rw [hL] at hCW
                  injection eW with e1 e2 e3
                  have HSM : Aside0 (Calls Try.prog 17 #[.slice AL no nL, .slice A7 l7 n7] wr fun e w' => e = .returned (.bool true) ∧ Below wr.heap.size wr w') := ⟨by
                    have hc1 := Kd.C_below HC5.out HBW.out
                    rw [HNO.out, HOE.out] at hc1
                    have hl7 : l7 = 0 := by rw [HL7.out.1, hL]; rfl
                    have h := sameLetters AL nL [] A7 n7 [] wr hc1 (by rw [e1]; exact hCW) (by decide) true (by simp)
                    rw [HNO.out, HOE.out, hl7]
                    exact h⟩
                  rw [show firstI [] = -1 from rfl]
                  clear hL hCW e1 e2 e3
                  go_wp2_with fail
                  refine HSM.out.mono ?_
                  rintro e w7 ⟨rfl, hb7⟩
                  have hb57 : HeldN w5 w7 := HBW.out.then_ hb7
                  have HM7 : Aside0 (∃ F', MaR w7 gM F' c (hlM np p tt [false, false, false, false] (rdN (lk np p tt ss N) (i + 1))) ∧ ∀ k, F' k → F k ∨ w6.heap.size ≤ k) := ⟨by
                    obtain ⟨F2, h1, h2⟩ := HM5.out
                    exact ⟨F2, h1.below hb57, h2⟩⟩
                  have HMEM7 : Aside0 (w7.heap[g]? = some (.cells ([.slice A1 N c1, .int .i64 j.parts, .slice A2 j.map.length c2, .slice A3 j.combine.length c3, .slice A4 j.reduce.length c4, .int .i64 j.chunk, .int .i64 j.window, .int .i64 j.fuel, .slice A5 j.marks.length c5, .int .i64 wk, .int .i64 tr, .int .i64 T] : List Value).toArray 28 (0, 0)) ∧ w7.heap[gA]? = some (.cells (arrI 6 tt).toArray 54 (0, 0)) ∧ Below W.heap.size W w7 ∧ w6.heap.size ≤ w7.heap.size) := ⟨⟨(hb57.block _ (blk_lt' HMEM5.out.1)).trans HMEM5.out.1, (hb57.block _ (blk_lt' HMEM5.out.2.1)).trans HMEM5.out.2.1, below_then HMEM5.out.2.2.1 HMEM5.out.2.2.1.size hb57, Nat.le_trans HMEM5.out.2.2.2 hb57.size⟩⟩
                  clear hb7 hb57
                  go_wp2_with fail
                  go_roundg (LM + 1 - (i + 1))
                  case measure => omega
                  case rel => exact ⟨i + 1, by omega, by go_num, HM7, HMEM7⟩
                | cons a0 l0 =>
                  obtain ⟨jx, rfl, hjl, hj0⟩ := lk_mem np p tt ss N (by rw [HTL.out]; exact Nat.le_refl _) a0 (by rw [hL]; exact List.mem_cons_self ..)
                  have hne : ¬ lk np p tt ss N = [] := by rw [hL]; simp
                  have hfi : firstI (lk np p tt ss N) = (jx : Int) := by rw [hL]; rfl
                  rw [show firstI ((jx : Int) :: l0) = (jx : Int) from rfl]
                  obtain ⟨tj, htj⟩ : ∃ tj, tj = tt[jx]'hjl := ⟨_, rfl⟩
                  have hgj : tt.getD jx 0 = tj := by rw [htj, List.getD_eq_getElem?_getD, List.getElem?_eq_getElem hjl]; rfl
                  have HOE : Aside0 (OUT = (lk np p tt ss N).map (wantL tt p) ++ [runL c i jx tj]) := ⟨by rw [HOT.out]; unfold hlOut rdN; rw [HTL.out, if_neg hne, if_neg hne, hfi, Int.toNat_natCast, hgj]⟩
                  have y1 : wr.cell? ⟨gA, jx, none⟩ = some (.int .i64 tj) := by rw [cell_of_blk HMEMr.out.2.1, arrI_get _ _ _ hjl, htj]
                  have hPA : (⟨gA, 0, none⟩ : Addr).add jx = ⟨gA, jx, none⟩ := by rw [add_plain]
                  have hjN : jx < N := by rw [← HTL.out]; exact hjl
                  have hjj0 : (0 : Int) ≤ (jx : Int) := by omega
                  have hj6 : (jx : Int) < 6 := by omega
                  have hh0 : HeldN wr wr := Below.refl _ _
                  have hhd : ∀ w', HeldN wr w' → HeldN wr w'.drew := fun w' h => h.then_ (below_drew w')
                  have HK30 : Aside0 (∀ w', HeldN wr w' → (w'.cell? ⟨gA, jx, none⟩ = some (.int .i64 tj) ∧ w'.cell? ⟨g, 0, none⟩ = some (.slice A1 N c1) ∧ w'.cell? ⟨g, 1, none⟩ = some (.int .i64 j.parts) ∧ w'.cell? ⟨g, 2, none⟩ = some (.slice A2 j.map.length c2) ∧ w'.cell? ⟨g, 3, none⟩ = some (.slice A3 j.combine.length c3) ∧ w'.cell? ⟨g, 4, none⟩ = some (.slice A4 j.reduce.length c4) ∧ w'.cell? ⟨g, 5, none⟩ = some (.int .i64 j.chunk) ∧ w'.cell? ⟨g, 6, none⟩ = some (.int .i64 j.window) ∧ w'.cell? ⟨g, 7, none⟩ = some (.int .i64 j.fuel) ∧ w'.cell? ⟨g, 8, none⟩ = some (.slice A5 j.marks.length c5) ∧ w'.cell? ⟨g, 9, none⟩ = some (.int .i64 wk) ∧ w'.cell? ⟨g, 10, none⟩ = some (.int .i64 tr) ∧ w'.cell? ⟨g, 11, none⟩ = some (.int .i64 T))) := ⟨fun w' hw => by
                    have hx := (hw.block g (blk_lt' HMEMr.out.1)).trans HMEMr.out.1
                    exact ⟨(Ch.of_below hw (fun _ => False)).cell y1 (fun h => h), cell_of_blk hx, cell_of_blk hx, cell_of_blk hx, cell_of_blk hx, cell_of_blk hx, cell_of_blk hx, cell_of_blk hx, cell_of_blk hx, cell_of_blk hx, cell_of_blk hx, cell_of_blk hx, cell_of_blk hx⟩⟩
                  have HTURN : Aside0 (∀ w', HeldN wr w' → Calls Try.prog 20 #[.agg #[.slice A1 N c1, .int .i64 j.parts, .slice A2 j.map.length c2, .slice A3 j.combine.length c3, .slice A4 j.reduce.length c4, .int .i64 j.chunk, .int .i64 j.window, .int .i64 j.fuel, .slice A5 j.marks.length c5, .int .i64 wk, .int .i64 tr, .int .i64 T], .int .i64 i] w' fun e w'' => e = .returned (.int .i64 (turnN true wk i)) ∧ HeldN wr w'') := ⟨fun w' hw => by
                    have hbw : Below W.heap.size W w' := below_then HMEMr.out.2.2.1 HMEMr.out.2.2.1.size hw
                    have h := turn j wk tr T A1 A2 A3 A4 A5 c1 c2 c3 c4 c5 w' (JobC.below HJ.out hbw) i true (by simpa using HMY.out) _ rfl
                    rw [← HN.out] at h
                    exact h.mono (fun e w'' h => ⟨h.1, hw.then_ h.2⟩)⟩
                  have HLA : Aside0 (∀ w', HeldN wr w' → ∀ ty, Runs Try.prog (Builtin.append_ #[39, 39] ty #[.slice A7 l7 n7, .slice (some ⟨w'.heap.size, 0, none⟩) 1 1]) (w'.alloc (.cells #[.int .i64 0, .int .i64 (turnN true wk i), .int .i64 1, .int .i64 jx, .int .i64 tj, .int .i64 0, .int .i64 0, .int .i64 0, .int .i64 0, .int .i64 0, .slice none 0 0, .slice none 0 0] 51)) fun v w9 => ∃ A8 n8, v = .slice A8 no n8 ∧ (w9.cell? ⟨gA, jx, none⟩ = some (.int .i64 tj) ∧ w9.cell? ⟨g, 0, none⟩ = some (.slice A1 N c1) ∧ w9.cell? ⟨g, 1, none⟩ = some (.int .i64 j.parts) ∧ w9.cell? ⟨g, 2, none⟩ = some (.slice A2 j.map.length c2) ∧ w9.cell? ⟨g, 3, none⟩ = some (.slice A3 j.combine.length c3) ∧ w9.cell? ⟨g, 4, none⟩ = some (.slice A4 j.reduce.length c4) ∧ w9.cell? ⟨g, 5, none⟩ = some (.int .i64 j.chunk) ∧ w9.cell? ⟨g, 6, none⟩ = some (.int .i64 j.window) ∧ w9.cell? ⟨g, 7, none⟩ = some (.int .i64 j.fuel) ∧ w9.cell? ⟨g, 8, none⟩ = some (.slice A5 j.marks.length c5) ∧ w9.cell? ⟨g, 9, none⟩ = some (.int .i64 wk) ∧ w9.cell? ⟨g, 10, none⟩ = some (.int .i64 tr) ∧ w9.cell? ⟨g, 11, none⟩ = some (.int .i64 T)) ∧ Aside0 (LetsP w9 w5.heap.size (.slice A8 no n8) OUT ∧ HeldN w5 w9)) := ⟨fun w' hw ty => by
                    have hlt7 : ((lk np p tt ss N).map (wantL tt p)).length = l7 := by rw [List.length_map]; exact HL7.out.1.symm
                    have hbw := HBW.out.then_ hw
                    refine (lets_app w' w5.heap.size (.slice A7 l7 n7) _ (runL c i jx tj) (HLE.out.below hw) hbw.size (by rw [hlt7]; have := HL7.out.2; omega) _ (by unfold runL; rw [HCW.out.1]; rfl) ty).mono ?_
                    rintro v w9 ⟨hO9, hc9⟩
                    rw [← HOE.out] at hO9
                    obtain ⟨A8, n8, rfl, _⟩ := hO9.reads
                    rw [← HNO.out] at hO9 ⊢
                    have hown : ∀ k, (Value.slice A7 l7 n7).ownBlock = some k → w5.heap.size ≤ k := fun k hk => Own.base_ HLE.out k hk
                    have hx := hc9.blk ((hw.block g (blk_lt' HMEMr.out.1)).trans HMEMr.out.1) (fun e => by have := hown g e; have := blk_lt' HMEM5.out.1; omega)
                    refine ⟨A8, n8, rfl, ⟨hc9.cell (HK30.out w' hw).1 (fun e => by have := hown gA e; have := blk_lt' HMEM5.out.2.1; omega), cell_of_blk hx, cell_of_blk hx, cell_of_blk hx, cell_of_blk hx, cell_of_blk hx, cell_of_blk hx, cell_of_blk hx, cell_of_blk hx, cell_of_blk hx, cell_of_blk hx, cell_of_blk hx, cell_of_blk hx⟩, ⟨hO9, Below.ch hbw hc9 hbw.size hown⟩⟩⟩
                  clear hL hne hfi htj hgj hjl hj0 y1
                  go_upto_region 30 with (fail)
                  clear x0
                  go_region_held_law (fun w' => (w'.cell? ⟨gA, jx, none⟩ = some (.int .i64 tj) ∧ w'.cell? ⟨g, 0, none⟩ = some (.slice A1 N c1) ∧ w'.cell? ⟨g, 1, none⟩ = some (.int .i64 j.parts) ∧ w'.cell? ⟨g, 2, none⟩ = some (.slice A2 j.map.length c2) ∧ w'.cell? ⟨g, 3, none⟩ = some (.slice A3 j.combine.length c3) ∧ w'.cell? ⟨g, 4, none⟩ = some (.slice A4 j.reduce.length c4) ∧ w'.cell? ⟨g, 5, none⟩ = some (.int .i64 j.chunk) ∧ w'.cell? ⟨g, 6, none⟩ = some (.int .i64 j.window) ∧ w'.cell? ⟨g, 7, none⟩ = some (.int .i64 j.fuel) ∧ w'.cell? ⟨g, 8, none⟩ = some (.slice A5 j.marks.length c5) ∧ w'.cell? ⟨g, 9, none⟩ = some (.int .i64 wk) ∧ w'.cell? ⟨g, 10, none⟩ = some (.int .i64 tr) ∧ w'.cell? ⟨g, 11, none⟩ = some (.int .i64 T))) (first | assumption | exact HK30.out _ (by first | assumption | exact hhd _ hh0 | exact hhd _ (by assumption) | exact HeldN.then_ (hhd _ hh0) ((Below.refl _ _).alloc (Nat.le_refl _) _) | exact HeldN.then_ (by assumption) ((Below.refl _ _).alloc (Nat.le_refl _) _)))
                    (first
                      | (go_at_call 20; ((with_reducible refine (HTURN.out _ (by first | assumption | exact hhd _ hh0)).mono ?_); rintro e wt ⟨rfl, hHt⟩))
                      | (refine step_app_run rfl (.tmp 146) (.tmp 156) 39 rfl (.slice A7 l7 n7) (.slice (some ⟨wt.heap.size, 0, none⟩) 1 1) (by simp [Act.eval, Act.put]) (by simp [Act.eval, Act.put]) (HLA.out wt hHt) ?_; rintro _ w9 ⟨A8, n8, rfl, hS9, hALL⟩))
                  all_goals
                    have hB9 := hALL.out.2
                    have HSM : Aside0 (Calls Try.prog 17 #[.slice AL no nL, .slice A8 no n8] w9 fun e w' => e = .returned (.bool true) ∧ Below w9.heap.size w9 w') := ⟨by
                      obtain ⟨AW, nW, eW, hCW⟩ := hALL.out.1.reads
                      injection eW with e1 e2 e3
                      have hc1 := Kd.C_below HC5.out hB9
                      have hlo : (OUT.map FLet.d).length = no := by rw [List.length_map]; exact HNO.out.symm
                      have hno6 : no ≤ 7 := by rw [HNO.out, HOE.out, List.length_append, List.length_map, ← HL7.out.1]; have := HL7.out.2; show l7 + 1 ≤ 7; omega
                      have h := sameLetters AL nL (OUT.map FLet.d) A8 n8 (OUT.map FLet.d) w9 (by rw [hlo]; exact hc1) (by rw [e1, List.length_map]; exact hCW) (by rw [hlo]; omega) true (by simp)
                      rw [hlo] at h
                      exact h⟩
                    have HBW := Aside0.mk hB9
                    clear hB9 hALL hS9 HLA HTURN HK30 hh0 hhd
                    go_wp2_with fail
                    refine HSM.out.mono ?_
                    rintro e w7 ⟨rfl, hb7⟩
                    have hb57 : HeldN w5 w7 := HBW.out.then_ hb7
                    have HM7 : Aside0 (∃ F', MaR w7 gM F' c (hlM np p tt [false, false, false, false] (rdN (lk np p tt ss N) (i + 1))) ∧ ∀ k, F' k → F k ∨ w6.heap.size ≤ k) := ⟨by
                      obtain ⟨F2, h1, h2⟩ := HM5.out
                      exact ⟨F2, h1.below hb57, h2⟩⟩
                    have HMEM7 : Aside0 (w7.heap[g]? = some (.cells ([.slice A1 N c1, .int .i64 j.parts, .slice A2 j.map.length c2, .slice A3 j.combine.length c3, .slice A4 j.reduce.length c4, .int .i64 j.chunk, .int .i64 j.window, .int .i64 j.fuel, .slice A5 j.marks.length c5, .int .i64 wk, .int .i64 tr, .int .i64 T] : List Value).toArray 28 (0, 0)) ∧ w7.heap[gA]? = some (.cells (arrI 6 tt).toArray 54 (0, 0)) ∧ Below W.heap.size W w7 ∧ w6.heap.size ≤ w7.heap.size) := ⟨⟨(hb57.block _ (blk_lt' HMEM5.out.1)).trans HMEM5.out.1, (hb57.block _ (blk_lt' HMEM5.out.2.1)).trans HMEM5.out.2.1, below_then HMEM5.out.2.2.1 HMEM5.out.2.2.1.size hb57, Nat.le_trans HMEM5.out.2.2.2 hb57.size⟩⟩
                    clear hb7 hb57
                    go_wp2_with fail
                    go_roundg (LM + 1 - (i + 1))
                    case measure => omega
                    case rel => exact ⟨i + 1, by omega, by go_num, HM7, HMEM7⟩
          · obtain rfl : i = LM + 1 := by omega
            have hltb : ¬ ((LM : Int) + 1 ≤ (LM : Int)) := by omega
            go_wp2_with fail
            refine (awake22 wr).mono ?_
            rintro e wz ⟨rfl, hbz⟩
            have HBZ := Aside0.mk (below_then HMEM.out.2.2.1 HMEM.out.2.2.1.size hbz)
            clear hbz
            go_wp2_with fail
            go_ret
            exact ⟨rfl, HBZ.out⟩
theorem masterHellos_walk (W : World) (x : CfgD) (cs : List Value) (hk : kCfg.K W x cs) (hg : GCfg x) (A1 : Option Addr) (c1 : Nat) (x1 : List Int) (hr1 : Kd.C kI W A1 x1.length x1) (hc1 : x1.length ≤ c1) (hg1 : ∀ x ∈ x1, W64 x) (a2 : Int) (w2 : (Lit.int .i64 a2).wf = true) (A3 : Option Addr) (c3 : Nat) (x3 : List Int) (hr3 : Kd.C kI W A3 x3.length x3) (hc3 : x3.length ≤ c3) (hg3 : ∀ x ∈ x3, W64 x) (a4 : Int) (w4 : (Lit.int .i64 a4).wf = true) :
    Calls Try.prog 4 #[.agg cs.toArray, .slice A1 x1.length c1, .int .i64 a2, .slice A3 x3.length c3, .int .i64 a4] W fun e w' => e = .returned (.bool true) ∧ Below W.heap.size W w' := by
  obtain ⟨B1, B2, B3, B4, B5, d1, d2, d3, d4, d5, rfl, hJ⟩ := kCfg_open hk
  exact masterHellos_in x.job x.workers x.tries x.timeout B1 B2 B3 B4 B5 d1 d2 d3 d4 d5 W hJ hg.1.1 A1 c1 x1 hr1 a2 A3 c3 x3 hr3 hc3 a4
end Go.Proofs.Ytbnhhlahbhjogaa.K
