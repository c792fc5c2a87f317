/- The statement MasterRuns. WRITTEN BY wip/gen_y23.py. -/
import Derived.Test.YtbnhhlahbhjogaaY22
set_option linter.unusedVariables false
set_option linter.unusedSimpArgs false
set_option maxRecDepth 100000
namespace Go.Proofs.Ytbnhhlahbhjogaa.K
open Go.RowKit Go.Proofs.YtbnhhlahbhjogaaW.PrintWords Go.Proofs.YtbnhhlahbhjogaaW.PrintLast Go.Proofs.YtbnhhlahbhjogaaW.PrintMore Go.Proofs.Ytbnhhlahbhjogaa.U Go.Proofs.Ytbnhhlahbhjogaa.T
attribute [local go_sem] max2_int min2_int

set_option maxHeartbeats 12800000 in
theorem masterRuns_in (j : JobD) (wk tr tmo : Int) (A1 A2 A3 A4 A5 : Option Addr) (c1 c2 c3 c4 c5 : Nat) (W : World) (hj : JobC W j A1 A2 A3 A4 A5 c1 c2 c3 c4 c5) (hgs : ∀ l ∈ j.splits, ∀ x ∈ l, GPair x) (ticks : Int) :
    Calls Try.prog 5 #[.agg #[.slice A1 j.splits.length c1, .int .i64 j.parts, .slice A2 j.map.length c2, .slice A3 j.combine.length c3, .slice A4 j.reduce.length c4, .int .i64 j.chunk, .int .i64 j.window, .int .i64 j.fuel, .slice A5 j.marks.length c5, .int .i64 wk, .int .i64 tr, .int .i64 tmo], .int .i64 ticks] W fun e w' => e = .returned (.bool true) ∧ Below W.heap.size W w' := by
  obtain ⟨N, hN⟩ : ∃ N, N = j.splits.length := ⟨_, rfl⟩
  obtain ⟨g, hg⟩ : ∃ g, g = W.heap.size := ⟨_, rfl⟩
  have hmx : N ≤ 9223372036854775807 := by rw [hN]; exact Kd.C_max hj.s
  obtain ⟨w0, hw0⟩ : ∃ w0, w0 = W.alloc (.cells #[.slice A1 N c1, .int .i64 j.parts, .slice A2 j.map.length c2, .slice A3 j.combine.length c3, .slice A4 j.reduce.length c4, .int .i64 j.chunk, .int .i64 j.window, .int .i64 j.fuel, .slice A5 j.marks.length c5, .int .i64 wk, .int .i64 tr, .int .i64 tmo] 28) := ⟨_, rfl⟩
  have hb0 : Below W.heap.size W w0 := by rw [hw0]; exact (Below.refl _ _).alloc (Nat.le_refl _) _
  have hg0 : w0.heap[g]? = some (.cells ([.slice A1 N c1, .int .i64 j.parts, .slice A2 j.map.length c2, .slice A3 j.combine.length c3, .slice A4 j.reduce.length c4, .int .i64 j.chunk, .int .i64 j.window, .int .i64 j.fuel, .slice A5 j.marks.length c5, .int .i64 wk, .int .i64 tr, .int .i64 tmo] : List Value).toArray 28 (0, 0)) := by rw [hw0, hg]; exact alloc_at W _
  have hgj := greatJob j A1 A2 A3 A4 A5 c1 c2 c3 c4 c5 w0 (JobC.below hj hb0) hgs
  rw [← hN] at hgj
  have HGJ := Aside0.mk hgj
  have HJ := Aside0.mk hj
  obtain ⟨rc, hrc⟩ := bool_of (CfgMay ⟨j, wk, tr, tmo⟩)
  have HMC : Aside0 (∀ w', Below W.heap.size W w' → Calls Try.prog 10 #[.agg #[.slice A1 N c1, .int .i64 j.parts, .slice A2 j.map.length c2, .slice A3 j.combine.length c3, .slice A4 j.reduce.length c4, .int .i64 j.chunk, .int .i64 j.window, .int .i64 j.fuel, .slice A5 j.marks.length c5, .int .i64 wk, .int .i64 tr, .int .i64 tmo]] w' fun e w'' => e = .returned (.bool rc) ∧ Below w'.heap.size w' w'') := ⟨fun w' hw => by
    have h := cfgMay j wk tr tmo A1 A2 A3 A4 A5 c1 c2 c3 c4 c5 w' (JobC.below HJ.out hw) rc hrc
    rw [← hN] at h
    exact h⟩
  have HRC := Aside0.mk hrc
  have HN := Aside0.mk hN
  have HG := Aside0.mk hg
  have HW0 := Aside0.mk hw0
  have HB0 := Aside0.mk hb0
  have HG0 := Aside0.mk hg0
  have huc := Try.underlying28
  have huj := Try.underlying26
  have hul := Try.underlying51
  have hum := Try.underlying45
  have x0 : w0.cell? ⟨g, 0, none⟩ = some (.slice A1 N c1) := cell_of_blk hg0
  have x1 : w0.cell? ⟨g, 1, none⟩ = some (.int .i64 j.parts) := cell_of_blk hg0
  have x2 : w0.cell? ⟨g, 2, none⟩ = some (.slice A2 j.map.length c2) := cell_of_blk hg0
  have x3 : w0.cell? ⟨g, 3, none⟩ = some (.slice A3 j.combine.length c3) := cell_of_blk hg0
  have x4 : w0.cell? ⟨g, 4, none⟩ = some (.slice A4 j.reduce.length c4) := cell_of_blk hg0
  have x5 : w0.cell? ⟨g, 5, none⟩ = some (.int .i64 j.chunk) := cell_of_blk hg0
  have x6 : w0.cell? ⟨g, 6, none⟩ = some (.int .i64 j.window) := cell_of_blk hg0
  have x7 : w0.cell? ⟨g, 7, none⟩ = some (.int .i64 j.fuel) := cell_of_blk hg0
  have x8 : w0.cell? ⟨g, 8, none⟩ = some (.slice A5 j.marks.length c5) := cell_of_blk hg0
  have x9 : w0.cell? ⟨g, 9, none⟩ = some (.int .i64 wk) := cell_of_blk hg0
  have x10 : w0.cell? ⟨g, 10, none⟩ = some (.int .i64 tr) := cell_of_blk hg0
  have x11 : w0.cell? ⟨g, 11, none⟩ = some (.int .i64 tmo) := cell_of_blk hg0
  rw [← hN]
  clear hj hgs hN hg hw0 hb0 hg0 hgj hrc
  go_enter Try.func5, Try.ntmps5
  go_upto_region 1 with (fail)
  rw [show W.alloc (.cells #[.slice A1 N c1, .int .i64 j.parts, .slice A2 j.map.length c2, .slice A3 j.combine.length c3, .slice A4 j.reduce.length c4, .int .i64 j.chunk, .int .i64 j.window, .int .i64 j.fuel, .slice A5 j.marks.length c5, .int .i64 wk, .int .i64 tr, .int .i64 tmo] 28) = w0 from HW0.out.symm, ← HG.out]
  go_wp2_with fail
  refine HGJ.out.mono ?_
  rintro e w1 ⟨⟨r, rfl, -⟩, hb1⟩
  have HG1 := Aside0.mk ((hb1.block g (blk_lt' HG0.out)).trans HG0.out)
  have HB1 := Aside0.mk (below_then HB0.out HB0.out.size hb1)
  clear hb1 HGJ
  clear x0 x1 x2 x3 x4 x5 x6 x7 x8 x9 x10 x11
  have x0 : w1.cell? ⟨g, 0, none⟩ = some (.slice A1 N c1) := cell_of_blk HG1.out
  have x1 : w1.cell? ⟨g, 1, none⟩ = some (.int .i64 j.parts) := cell_of_blk HG1.out
  have x2 : w1.cell? ⟨g, 2, none⟩ = some (.slice A2 j.map.length c2) := cell_of_blk HG1.out
  have x3 : w1.cell? ⟨g, 3, none⟩ = some (.slice A3 j.combine.length c3) := cell_of_blk HG1.out
  have x4 : w1.cell? ⟨g, 4, none⟩ = some (.slice A4 j.reduce.length c4) := cell_of_blk HG1.out
  have x5 : w1.cell? ⟨g, 5, none⟩ = some (.int .i64 j.chunk) := cell_of_blk HG1.out
  have x6 : w1.cell? ⟨g, 6, none⟩ = some (.int .i64 j.window) := cell_of_blk HG1.out
  have x7 : w1.cell? ⟨g, 7, none⟩ = some (.int .i64 j.fuel) := cell_of_blk HG1.out
  have x8 : w1.cell? ⟨g, 8, none⟩ = some (.slice A5 j.marks.length c5) := cell_of_blk HG1.out
  have x9 : w1.cell? ⟨g, 9, none⟩ = some (.int .i64 wk) := cell_of_blk HG1.out
  have x10 : w1.cell? ⟨g, 10, none⟩ = some (.int .i64 tr) := cell_of_blk HG1.out
  have x11 : w1.cell? ⟨g, 11, none⟩ = some (.int .i64 tmo) := cell_of_blk HG1.out
  cases r
  case' true =>
    go_wp2_with fail
    refine (awake22 w1).mono ?_
    rintro e wz ⟨rfl, hbz⟩
    have HBZ := Aside0.mk (below_then HB1.out HB1.out.size hbz)
    clear hbz
    go_wp2_with fail
    go_ret
    exact ⟨rfl, HBZ.out⟩
  go_wp2_with fail
  refine (HMC.out w1 HB1.out).mono ?_
  rintro e w2 ⟨rfl, hb2⟩
  have HG2 := Aside0.mk ((hb2.block g (blk_lt' HG1.out)).trans HG1.out)
  have HB2 := Aside0.mk (below_then HB1.out HB1.out.size hb2)
  clear hb2 HMC
  clear x0 x1 x2 x3 x4 x5 x6 x7 x8 x9 x10 x11
  cases rc
  case' false =>
    go_wp2_with fail
    refine (awake22 w2).mono ?_
    rintro e wz ⟨rfl, hbz⟩
    have HBZ := Aside0.mk (below_then HB2.out HB2.out.size hbz)
    clear hbz
    go_wp2_with fail
    go_ret
    exact ⟨rfl, HBZ.out⟩
  have HMY : Aside0 (CfgMay ⟨j, wk, tr, tmo⟩) := ⟨HRC.out.1 rfl⟩
  obtain ⟨T, rfl⟩ : ∃ T : Nat, tmo = T := ⟨tmo.toNat, by have := HMY.out.timeout.1; dsimp only at this; omega⟩
  obtain ⟨c, hc⟩ : ∃ c : CfgD, c = ⟨j, wk, tr, T⟩ := ⟨_, rfl⟩
  have HNEW : Aside0 (Calls Try.prog 12 #[.agg #[.slice A1 N c1, .int .i64 j.parts, .slice A2 j.map.length c2, .slice A3 j.combine.length c3, .slice A4 j.reduce.length c4, .int .i64 j.chunk, .int .i64 j.window, .int .i64 j.fuel, .slice A5 j.marks.length c5, .int .i64 wk, .int .i64 tr, .int .i64 T], .slice none 0 0] w2 fun e w' => ∃ gM F, e = .returned (.tuple #[.pointer (some ⟨gM, 0, none⟩), .int .i64 0]) ∧ MaR w' gM F c (m0 c) ∧ (∀ i, F i → w2.heap.size ≤ i) ∧ Below w2.heap.size w2 w') := ⟨by
    have h := mNew ⟨j, wk, tr, T⟩ ⟨A1, A2, A3, A4, A5, c1, c2, c3, c4, c5⟩ [] none 0 w2 (JobC.below HJ.out HB2.out) HMY.out (C_zero _ _)
    dsimp only at h
    rw [← HN.out, ← hc] at h
    exact h⟩
  have HC := Aside0.mk hc
  clear hc
  have x0 : w2.cell? ⟨g, 0, none⟩ = some (.slice A1 N c1) := cell_of_blk HG2.out
  have x1 : w2.cell? ⟨g, 1, none⟩ = some (.int .i64 j.parts) := cell_of_blk HG2.out
  have x2 : w2.cell? ⟨g, 2, none⟩ = some (.slice A2 j.map.length c2) := cell_of_blk HG2.out
  have x3 : w2.cell? ⟨g, 3, none⟩ = some (.slice A3 j.combine.length c3) := cell_of_blk HG2.out
  have x4 : w2.cell? ⟨g, 4, none⟩ = some (.slice A4 j.reduce.length c4) := cell_of_blk HG2.out
  have x5 : w2.cell? ⟨g, 5, none⟩ = some (.int .i64 j.chunk) := cell_of_blk HG2.out
  have x6 : w2.cell? ⟨g, 6, none⟩ = some (.int .i64 j.window) := cell_of_blk HG2.out
  have x7 : w2.cell? ⟨g, 7, none⟩ = some (.int .i64 j.fuel) := cell_of_blk HG2.out
  have x8 : w2.cell? ⟨g, 8, none⟩ = some (.slice A5 j.marks.length c5) := cell_of_blk HG2.out
  have x9 : w2.cell? ⟨g, 9, none⟩ = some (.int .i64 wk) := cell_of_blk HG2.out
  have x10 : w2.cell? ⟨g, 10, none⟩ = some (.int .i64 tr) := cell_of_blk HG2.out
  have x11 : w2.cell? ⟨g, 11, none⟩ = some (.int .i64 T) := cell_of_blk HG2.out
  go_wp2_with fail
  refine HNEW.out.mono ?_
  rintro e w3 ⟨gM, F, rfl, hM3, hF3, hb3⟩
  have HM3 := Aside0.mk hM3
  have HG3 : Aside0 (w3.heap[g]? = some (.cells ([.slice A1 N c1, .int .i64 j.parts, .slice A2 j.map.length c2, .slice A3 j.combine.length c3, .slice A4 j.reduce.length c4, .int .i64 j.chunk, .int .i64 j.window, .int .i64 j.fuel, .slice A5 j.marks.length c5, .int .i64 wk, .int .i64 tr, .int .i64 T] : List Value).toArray 28 (0, 0))) := ⟨(hb3.block g (blk_lt' HG2.out)).trans HG2.out⟩
  have HB3 := Aside0.mk (below_then HB2.out HB2.out.size hb3)
  have HFG : Aside0 (¬ F g) := ⟨fun h => by have := hF3 g h; have := blk_lt' HG2.out; omega⟩
  have HFW : Aside0 (∀ i, F i → W.heap.size ≤ i) := ⟨fun i h => Nat.le_trans HB2.out.size (hF3 i h)⟩
  have HNC : Aside0 (N = c.job.splits.length) := ⟨by rw [HC.out]; exact HN.out⟩
  have HCW : Aside0 (c.workers = wk ∧ c.tries = tr ∧ c.timeout = T ∧ c.job = j) := ⟨by rw [HC.out]; exact ⟨rfl, rfl, rfl, rfl⟩⟩
  clear hM3 hF3 hb3 HNEW HRC HG0 HB0 HW0 HG1 HB1
  clear x0 x1 x2 x3 x4 x5 x6 x7 x8 x9 x10 x11
  obtain ⟨LN, hLN⟩ : ∃ LN : Nat, lowN ticks 101 = LN := ⟨(lowN ticks 101).toNat, by have := (lowN_range ticks 101 (by omega)).1; omega⟩
  have hL100 : LN ≤ 100 := by have := (lowN_range ticks 101 (by omega)).2; omega
  have HLO : Aside0 (∀ w', Calls Try.prog 13 #[.int .i64 ticks, .int .i64 101] w' fun e w'' => e = .returned (.int .i64 LN) ∧ w'' = w') := ⟨fun w' => by
    have h := low ticks 101 w' (by omega) (by omega)
    rw [hLN] at h
    exact h⟩
  have HTR : Aside0 (1 ≤ c.tries ∧ c.tries ≤ 3) := ⟨by rw [HCW.out.2.1]; exact HMY.out.tries⟩
  have HT0 : Aside0 (0 < T) := ⟨by have := HMY.out.timeout.1; dsimp only at this; omega⟩
  have HT50 : Aside0 (T ≤ 50) := ⟨by have := HMY.out.timeout.2; dsimp only at this; omega⟩
  have HN6 : Aside0 (N ≤ 6) := ⟨by have := HMY.out.job.splits.2; have := HN.out; dsimp only at *; omega⟩
  have HM30 : Aside0 (MaR w3 gM F c (befT c T 0)) := ⟨by have h := HM3.out; rw [un_m0 c HTR.out.1] at h; exact h⟩
  clear hLN
  go_wp2_with fail
  go_loopg [7, 8, 9, 10] (LN + 1) (fun kq v7 v8 v9 v10 w' => ∃ (t : Nat), t + kq = LN + 1 ∧ v7 = .int .i64 t ∧ Aside0 (MaR w' gM F c (befT c T t)) ∧ Aside0 (Below W.heap.size W w') ∧ Aside0 (w'.heap[g]? = some (.cells ([.slice A1 N c1, .int .i64 j.parts, .slice A2 j.map.length c2, .slice A3 j.combine.length c3, .slice A4 j.reduce.length c4, .int .i64 j.chunk, .int .i64 j.window, .int .i64 j.fuel, .slice A5 j.marks.length c5, .int .i64 wk, .int .i64 tr, .int .i64 T] : List Value).toArray 28 (0, 0))))
  case atStart => exact ⟨0, by omega, rfl, HM30, HB3, HG3⟩
  case round =>
    obtain ⟨t, ht, rfl, HM, HB, HGB⟩ := hrel
    go_wp2_with fail
    refine (HLO.out wr).mono ?_
    rintro e wr ⟨rfl, rfl⟩
    by_cases hlt : t ≤ LN
    · have hltI : (t : Int) ≤ LN := by omega
      have ht0 : (0 : Int) ≤ (t : Int) := by omega
      have HT1000 : Aside0 (t ≤ 1000) := ⟨by omega⟩
      have HWK : Aside0 (Calls Try.prog 18 #[.pointer (some ⟨gM, 0, none⟩)] wr fun e w' => ∃ v, e = .returned v ∧ MaPostL wr gM F c (aftT c T t) v (if t % T = 0 then (List.range c.job.splits.length).map (runsL c (t / T)) else []) w') := ⟨by
        have h := rWake HM.out 1001 (bef_B c T t HTR.out HT1000.out) (by omega)
        rw [runs_wake c T t HTR.out.1 HCW.out.2.2.1 HT0.out] at h
        exact h⟩
      obtain ⟨q, hq⟩ : ∃ q, q = t / T := ⟨_, rfl⟩
      obtain ⟨r, hr⟩ : ∃ r, r = t % T := ⟨_, rfl⟩
      have hqt : q ≤ t := by rw [hq]; exact Nat.div_le_self ..
      have hrT : r < T := by rw [hr]; exact Nat.mod_lt _ HT0.out
      have hT50 := HT50.out
      have hdiv : (t : Int).tdiv (T : Int) = (q : Int) := by rw [hq]; exact (Int.ofNat_tdiv t T).symm
      have hmod : (t : Int).tmod (T : Int) = (r : Int) := by rw [hr]; exact (Int.ofNat_tmod t T).symm
      have hTz : ((T : Int) == 0) = false := by have := HT0.out; simp; omega
      have hq0 : (0 : Int) ≤ (q : Int) := by omega
      have hq1 : (q : Int) ≤ 100 := by omega
      have hr0 : (0 : Int) ≤ (r : Int) := by omega
      have hr1 : (r : Int) ≤ 50 := by omega
      have hwq : IntKind.i64.wrap (q : Int) = (q : Int) := IntWalk.i64_in _ (by omega)
      have hwr : IntKind.i64.wrap (r : Int) = (r : Int) := IntWalk.i64_in _ (by omega)
      rw [← hq, ← hr] at HWK
      have HQ := Aside0.mk hq
      clear hq hr
      go_wp2_with fail
      refine HWK.out.mono ?_
      rintro e w5 ⟨v5, rfl, hM5, hL5, hc5⟩
      have HM5 := Aside0.mk hM5
      have HG5 : Aside0 (w5.heap[g]? = some (.cells ([.slice A1 N c1, .int .i64 j.parts, .slice A2 j.map.length c2, .slice A3 j.combine.length c3, .slice A4 j.reduce.length c4, .int .i64 j.chunk, .int .i64 j.window, .int .i64 j.fuel, .slice A5 j.marks.length c5, .int .i64 wk, .int .i64 tr, .int .i64 T] : List Value).toArray 28 (0, 0))) := ⟨hc5.blk HGB.out HFG.out⟩
      have HB5 : Aside0 (Below W.heap.size W w5) := ⟨Below.ch HB.out hc5 HB.out.size HFW.out⟩
      have x11 : w5.cell? ⟨g, 11, none⟩ = some (.int .i64 (T : Int)) := cell_of_blk HG5.out
      have x0 : w5.cell? ⟨g, 0, none⟩ = some (.slice A1 N c1) := cell_of_blk HG5.out
      clear HWK hM5 hc5
      by_cases hr00 : r = 0
      · rw [if_pos hr00] at hL5
        subst hr00
        obtain ⟨AL, nL, rfl, hC5⟩ := hL5.reads
        rw [List.length_map, List.length_range, ← HNC.out] at hC5 ⊢
        have HC5 := Aside0.mk hC5
        clear hL5 hC5
        go_wp2_with fail
        go_loopg [10] N (fun kq v10 w' => ∃ (s : Nat), s + kq = N ∧ v10 = .int .i64 s ∧ Aside0 (HeldN w5 w'))
        case atStart => exact ⟨0, by omega, rfl, ⟨Below.refl _ _⟩⟩
        case round =>
          obtain ⟨s, hs, rfl, HBW⟩ := hrel
          by_cases hsl : s < N
          · have hslI : (s : Int) < N := by omega
            have hs0 : (0 : Int) ≤ (s : Int) := by omega
            have hN6 := HN6.out
            have hs6 : (s : Int) ≤ 6 := by omega
            have hlen : (((List.range N).map (runsL c q)).map FLet.d).length = N := by rw [List.length_map, List.length_map, List.length_range]
            obtain ⟨ad, B1, B2, b1, b2, rfl, hmc, hcells⟩ := at_let (Kd.C_below HC5.out HBW.out) s (by rw [hlen]; exact hsl)
            have he : (((List.range N).map (runsL c q)).map FLet.d)[s]'(by rw [hlen]; exact hsl) = (runsL c q s).d := by simp
            rw [he] at hmc hcells
            have hat := LetAt.of hcells
            obtain ⟨P, hP⟩ : ∃ P, ad.add (s * 12) = P := ⟨_, rfl⟩
            rw [hP] at hat
            obtain ⟨TT, hTT⟩ : ∃ TT, (if tr < IntKind.i64.wrap ((q : Int) + 1) then tr else IntKind.i64.wrap ((q : Int) + 1)) = TT := ⟨_, rfl⟩
            have HTT := Aside0.mk hTT
            have hwq1 : IntKind.i64.wrap ((q : Int) + 1) = (q : Int) + 1 := IntWalk.i64_in _ (by omega)
            have hmin : min ((q : Int) + 1) c.tries = TT := by rw [HCW.out.2.1, ← hTT, hwq1]; split <;> omega
            have HRL : Aside0 ((runsL c q s).d = ⟨0, turnN true wk ((s : Int) + (q : Int)), ⟨1, s, TT, 0, 0, 0, 0, 0, [], []⟩⟩) := ⟨by unfold runsL runL FLet.d; rw [HCW.out.1, hmin]⟩
            rw [HRL.out] at hat hmc
            obtain ⟨_, e1, e2, e3, e4, e5, e6, e7, e8, e9, e10, e11⟩ := hat
            have HK0 : Aside0 (∀ w', HeldN wr w' → (w'.cell? ⟨P.block, P.off + 1, none⟩ = some (.int .i64 (turnN true wk ((s : Int) + (q : Int)))) ∧ w'.cell? ⟨P.block, P.off + 2, none⟩ = some (.int .i64 1) ∧ w'.cell? ⟨P.block, P.off + 3, none⟩ = some (.int .i64 s) ∧ w'.cell? ⟨P.block, P.off + 4, none⟩ = some (.int .i64 TT) ∧ w'.cell? ⟨P.block, P.off + 5, none⟩ = some (.int .i64 0) ∧ w'.cell? ⟨P.block, P.off + 6, none⟩ = some (.int .i64 0) ∧ w'.cell? ⟨P.block, P.off + 7, none⟩ = some (.int .i64 0) ∧ w'.cell? ⟨P.block, P.off + 8, none⟩ = some (.int .i64 0) ∧ w'.cell? ⟨P.block, P.off + 9, none⟩ = some (.int .i64 0) ∧ w'.cell? ⟨P.block, P.off + 10, none⟩ = some (.slice B1 0 b1) ∧ w'.cell? ⟨P.block, P.off + 11, none⟩ = some (.slice B2 0 b2) ∧ w'.cell? ⟨g, 0, none⟩ = some (.slice A1 N c1) ∧ w'.cell? ⟨g, 1, none⟩ = some (.int .i64 j.parts) ∧ w'.cell? ⟨g, 2, none⟩ = some (.slice A2 j.map.length c2) ∧ w'.cell? ⟨g, 3, none⟩ = some (.slice A3 j.combine.length c3) ∧ w'.cell? ⟨g, 4, none⟩ = some (.slice A4 j.reduce.length c4) ∧ w'.cell? ⟨g, 5, none⟩ = some (.int .i64 j.chunk) ∧ w'.cell? ⟨g, 6, none⟩ = some (.int .i64 j.window) ∧ w'.cell? ⟨g, 7, none⟩ = some (.int .i64 j.fuel) ∧ w'.cell? ⟨g, 8, none⟩ = some (.slice A5 j.marks.length c5) ∧ w'.cell? ⟨g, 9, none⟩ = some (.int .i64 wk) ∧ w'.cell? ⟨g, 10, none⟩ = some (.int .i64 tr) ∧ w'.cell? ⟨g, 11, none⟩ = some (.int .i64 T))) := ⟨fun w' hw => by
              have hx := ((HBW.out.then_ hw).block g (blk_lt' HG5.out)).trans HG5.out
              have k := fun {a : Addr} {v : Value} (h : wr.cell? a = some v) => (Ch.of_below hw (fun _ => False)).cell h (fun h => h)
              exact ⟨k e1, k e2, k e3, k e4, k e5, k e6, k e7, k e8, k e9, k e10, k e11, cell_of_blk hx, cell_of_blk hx, cell_of_blk hx, cell_of_blk hx, cell_of_blk hx, cell_of_blk hx, cell_of_blk hx, cell_of_blk hx, cell_of_blk hx, cell_of_blk hx, cell_of_blk hx, cell_of_blk hx⟩⟩
            have HWR : Aside0 (IntKind.i64.wrap ((s : Int) + (q : Int)) = (s : Int) + (q : Int)) := ⟨IntWalk.i64_in _ (by omega)⟩
            have hh0 : HeldN wr wr := Below.refl _ _
            have hhd : ∀ w', HeldN wr w' → HeldN wr w'.drew := fun w' h => h.then_ (below_drew w')
            have HTURN : Aside0 (∀ w', HeldN wr w' → Calls Try.prog 20 #[.agg #[.slice A1 N c1, .int .i64 j.parts, .slice A2 j.map.length c2, .slice A3 j.combine.length c3, .slice A4 j.reduce.length c4, .int .i64 j.chunk, .int .i64 j.window, .int .i64 j.fuel, .slice A5 j.marks.length c5, .int .i64 wk, .int .i64 tr, .int .i64 T], .int .i64 ((s : Int) + (q : Int))] w' fun e w'' => e = .returned (.int .i64 (turnN true wk ((s : Int) + (q : Int)))) ∧ HeldN wr w'') := ⟨fun w' hw => by
              have hbw : Below W.heap.size W w' := below_then HB5.out HB5.out.size (HBW.out.then_ hw)
              have h := turn j wk tr T A1 A2 A3 A4 A5 c1 c2 c3 c4 c5 w' (JobC.below HJ.out hbw) ((s : Int) + (q : Int)) true (by simpa using HMY.out) _ rfl
              rw [← HN.out] at h
              exact h.mono (fun e w'' h => ⟨h.1, hw.then_ h.2⟩)⟩
            have HSM : Aside0 (∀ w', HeldN wr w' → Calls Try.prog 21 #[.agg #[.int .i64 1, .int .i64 s, .int .i64 TT, .int .i64 0, .int .i64 0, .int .i64 0, .int .i64 0, .int .i64 0, .slice B1 0 b1, .slice B2 0 b2], .agg #[.int .i64 1, .int .i64 s, .int .i64 TT, .int .i64 0, .int .i64 0, .int .i64 0, .int .i64 0, .int .i64 0, .slice none 0 0, .slice none 0 0]] w' fun e w'' => e = .returned (.bool true) ∧ HeldN wr w'') := ⟨fun w' hw =>
              (sameMessage ⟨1, s, TT, 0, 0, 0, 0, 0, [], []⟩ ⟨1, s, TT, 0, 0, 0, 0, 0, [], []⟩ B1 B2 none none b1 b2 0 0 w' (hmc.below hw) ⟨C_zero _ _, C_zero _ _, Nat.le_refl _, Nat.le_refl _⟩ true (by simp)).mono (fun e w'' h => ⟨h.1, hw.then_ h.2⟩)⟩
            clear hTT hwq1 he hmc hcells hmin e1 e2 e3 e4 e5 e6 e7 e8 e9 e10 e11 x0 x11 hlen
            go_wp2_with fail
            go_upto_region 19 with (fail)
            go_region_held_law (fun w' => (w'.cell? ⟨P.block, P.off + 1, none⟩ = some (.int .i64 (turnN true wk ((s : Int) + (q : Int)))) ∧ w'.cell? ⟨P.block, P.off + 2, none⟩ = some (.int .i64 1) ∧ w'.cell? ⟨P.block, P.off + 3, none⟩ = some (.int .i64 s) ∧ w'.cell? ⟨P.block, P.off + 4, none⟩ = some (.int .i64 TT) ∧ w'.cell? ⟨P.block, P.off + 5, none⟩ = some (.int .i64 0) ∧ w'.cell? ⟨P.block, P.off + 6, none⟩ = some (.int .i64 0) ∧ w'.cell? ⟨P.block, P.off + 7, none⟩ = some (.int .i64 0) ∧ w'.cell? ⟨P.block, P.off + 8, none⟩ = some (.int .i64 0) ∧ w'.cell? ⟨P.block, P.off + 9, none⟩ = some (.int .i64 0) ∧ w'.cell? ⟨P.block, P.off + 10, none⟩ = some (.slice B1 0 b1) ∧ w'.cell? ⟨P.block, P.off + 11, none⟩ = some (.slice B2 0 b2) ∧ w'.cell? ⟨g, 0, none⟩ = some (.slice A1 N c1) ∧ w'.cell? ⟨g, 1, none⟩ = some (.int .i64 j.parts) ∧ w'.cell? ⟨g, 2, none⟩ = some (.slice A2 j.map.length c2) ∧ w'.cell? ⟨g, 3, none⟩ = some (.slice A3 j.combine.length c3) ∧ w'.cell? ⟨g, 4, none⟩ = some (.slice A4 j.reduce.length c4) ∧ w'.cell? ⟨g, 5, none⟩ = some (.int .i64 j.chunk) ∧ w'.cell? ⟨g, 6, none⟩ = some (.int .i64 j.window) ∧ w'.cell? ⟨g, 7, none⟩ = some (.int .i64 j.fuel) ∧ w'.cell? ⟨g, 8, none⟩ = some (.slice A5 j.marks.length c5) ∧ w'.cell? ⟨g, 9, none⟩ = some (.int .i64 wk) ∧ w'.cell? ⟨g, 10, none⟩ = some (.int .i64 tr) ∧ w'.cell? ⟨g, 11, none⟩ = some (.int .i64 T))) (first | assumption | exact HK0.out _ (by first | assumption | exact hhd _ hh0))
              (first
                | (go_at_call 20; (try rw [HWR.out]); ((with_reducible refine (HTURN.out _ (by first | assumption | exact hhd _ hh0)).mono ?_); rintro e wa ⟨rfl, hHa⟩))
                | (go_at_call 21; (try rw [HTT.out]); ((with_reducible refine (HSM.out _ (by first | assumption | exact hhd _ hh0)).mono ?_); rintro e wb ⟨rfl, hHb⟩)))
            all_goals
              have HBW2 : Aside0 (HeldN w5 wb) := ⟨HBW.out.then_ hHb⟩
              clear hHb hHa HK0 HTURN HSM hh0 hhd
              go_wp2_with fail
              go_roundg (N - (s + 1))
              case measure => omega
              case rel => exact ⟨s + 1, by omega, by go_num, HBW2⟩
          · obtain rfl : N = s := by omega
            clear x0 x11
            have HWK2 : Aside0 (Calls Try.prog 18 #[.pointer (some ⟨gM, 0, none⟩)] wr fun e w'' => ∃ A n, e = .returned (.slice A 0 n) ∧ Aside0 (MaR w'' gM F c (aftT c T t) ∧ Ch wr w'' F)) := ⟨by
              have h := rWake (HM5.out.below HBW.out) 1001 (aft_B c T t HTR.out HT1000.out) (by omega)
              rw [runs_again c T t HTR.out.1 HCW.out.2.2.1 HT0.out] at h
              refine h.mono ?_
              rintro e w'' ⟨v, rfl, h1, h2, h3⟩
              obtain ⟨A, n, rfl, _⟩ := h2.reads
              exact ⟨A, n, rfl, ⟨h1, h3⟩⟩⟩
            go_wp2_with fail
            refine HWK2.out.mono ?_
            rintro e w7 ⟨A7, n7, rfl, h7⟩
            have HM7 := Aside0.mk h7.out.1
            have HC7 := Aside0.mk h7.out.2
            have HNW : Aside0 (Calls Try.prog 22 #[.pointer (some ⟨gM, 0, none⟩)] w7 fun e w' => e = .returned (.int .i64 t) ∧ w' = w7) := ⟨rNow HM7.out⟩
            have HTK : Aside0 (Calls Try.prog 23 #[.pointer (some ⟨gM, 0, none⟩)] w7 fun e w' => e = .returned (.tuple #[]) ∧ Aside0 (MaR w' gM F c (befT c T (t + 1)) ∧ Ch w7 w' F)) := ⟨by
              have h := rTick HM7.out (aft_B c T t HTR.out HT1000.out).n0 (aft_B c T t HTR.out HT1000.out).n1
              rw [runs_tick c T t HT1000.out] at h
              exact h.mono (fun e w' h => ⟨h.1, ⟨h.2⟩⟩)⟩
            clear h7 HWK2
            go_wp2_with fail
            refine HNW.out.mono ?_
            rintro e w7 ⟨rfl, rfl⟩
            go_wp2_with fail
            refine HTK.out.mono ?_
            rintro e w8 ⟨rfl, h8⟩
            have HM8 := Aside0.mk h8.out.1
            have hcw : Ch w5 w8 F := ((Ch.of_below (S := F) HBW.out).trans HC7.out (fun _ _ h => h)).trans h8.out.2 (fun _ _ h => h)
            have HG8 : Aside0 (w8.heap[g]? = some (.cells ([.slice A1 N c1, .int .i64 j.parts, .slice A2 j.map.length c2, .slice A3 j.combine.length c3, .slice A4 j.reduce.length c4, .int .i64 j.chunk, .int .i64 j.window, .int .i64 j.fuel, .slice A5 j.marks.length c5, .int .i64 wk, .int .i64 tr, .int .i64 T] : List Value).toArray 28 (0, 0))) := ⟨hcw.blk HG5.out HFG.out⟩
            have HB8 : Aside0 (Below W.heap.size W w8) := ⟨Below.ch HB5.out hcw HB5.out.size HFW.out⟩
            clear hcw h8
            go_wp2_with fail
            go_roundg (LN + 1 - (t + 1))
            case measure => omega
            case rel => exact ⟨t + 1, by omega, by go_num, HM8, HB8, HG8⟩
      · rw [if_neg hr00] at hL5
        obtain ⟨AL, nL, rfl, _⟩ := hL5.reads
        have hrb : ((r : Int) != 0) = true := by simp; omega
        clear hL5
        go_wp2_with fail
        go_loopg [10] 0 (fun kq v10 w' => v10 = .int .i64 0 ∧ Aside0 (HeldN w5 w'))
        case atStart => exact ⟨rfl, ⟨Below.refl _ _⟩⟩
        case round =>
          obtain ⟨rfl, HBW⟩ := hrel
          clear x0 x11
          have HWK2 : Aside0 (Calls Try.prog 18 #[.pointer (some ⟨gM, 0, none⟩)] wr fun e w'' => ∃ A n, e = .returned (.slice A 0 n) ∧ Aside0 (MaR w'' gM F c (aftT c T t) ∧ Ch wr w'' F)) := ⟨by
            have h := rWake (HM5.out.below HBW.out) 1001 (aft_B c T t HTR.out HT1000.out) (by omega)
            rw [runs_again c T t HTR.out.1 HCW.out.2.2.1 HT0.out] at h
            refine h.mono ?_
            rintro e w'' ⟨v, rfl, h1, h2, h3⟩
            obtain ⟨A, n, rfl, _⟩ := h2.reads
            exact ⟨A, n, rfl, ⟨h1, h3⟩⟩⟩
          go_wp2_with fail
          refine HWK2.out.mono ?_
          rintro e w7 ⟨A7, n7, rfl, h7⟩
          have HM7 := Aside0.mk h7.out.1
          have HC7 := Aside0.mk h7.out.2
          have HNW : Aside0 (Calls Try.prog 22 #[.pointer (some ⟨gM, 0, none⟩)] w7 fun e w' => e = .returned (.int .i64 t) ∧ w' = w7) := ⟨rNow HM7.out⟩
          have HTK : Aside0 (Calls Try.prog 23 #[.pointer (some ⟨gM, 0, none⟩)] w7 fun e w' => e = .returned (.tuple #[]) ∧ Aside0 (MaR w' gM F c (befT c T (t + 1)) ∧ Ch w7 w' F)) := ⟨by
            have h := rTick HM7.out (aft_B c T t HTR.out HT1000.out).n0 (aft_B c T t HTR.out HT1000.out).n1
            rw [runs_tick c T t HT1000.out] at h
            exact h.mono (fun e w' h => ⟨h.1, ⟨h.2⟩⟩)⟩
          clear h7 HWK2
          go_wp2_with fail
          refine HNW.out.mono ?_
          rintro e w7 ⟨rfl, rfl⟩
          go_wp2_with fail
          refine HTK.out.mono ?_
          rintro e w8 ⟨rfl, h8⟩
          have HM8 := Aside0.mk h8.out.1
          have hcw : Ch w5 w8 F := ((Ch.of_below (S := F) HBW.out).trans HC7.out (fun _ _ h => h)).trans h8.out.2 (fun _ _ h => h)
          have HG8 : Aside0 (w8.heap[g]? = some (.cells ([.slice A1 N c1, .int .i64 j.parts, .slice A2 j.map.length c2, .slice A3 j.combine.length c3, .slice A4 j.reduce.length c4, .int .i64 j.chunk, .int .i64 j.window, .int .i64 j.fuel, .slice A5 j.marks.length c5, .int .i64 wk, .int .i64 tr, .int .i64 T] : List Value).toArray 28 (0, 0))) := ⟨hcw.blk HG5.out HFG.out⟩
          have HB8 : Aside0 (Below W.heap.size W w8) := ⟨Below.ch HB5.out hcw HB5.out.size HFW.out⟩
          clear hcw h8
          go_wp2_with fail
          go_roundg (LN + 1 - (t + 1))
          case measure => omega
          case rel => exact ⟨t + 1, by omega, by go_num, HM8, HB8, HG8⟩
    · obtain rfl : t = LN + 1 := by omega
      have hltb : ¬ ((LN : Int) + 1 ≤ (LN : Int)) := by omega
      go_wp2_with fail
      refine (awake22 wr).mono ?_
      rintro e wz ⟨rfl, hbz⟩
      have HBZ := Aside0.mk (below_then HB.out HB.out.size hbz)
      clear hbz
      go_wp2_with fail
      go_ret
      exact ⟨rfl, HBZ.out⟩
theorem masterRuns_walk (W : World) (x : CfgD) (cs : List Value) (hk : kCfg.K W x cs) (hg : GCfg x) (n : Int) (wn : (Lit.int .i64 n).wf = true) :
    Calls Try.prog 5 #[.agg cs.toArray, .int .i64 n] W fun e w' => e = .returned (.bool true) ∧ Below W.heap.size W w' := by
  obtain ⟨A1, A2, A3, A4, A5, c1, c2, c3, c4, c5, rfl, hJ⟩ := kCfg_open hk
  exact masterRuns_in x.job x.workers x.tries x.timeout A1 A2 A3 A4 A5 c1 c2 c3 c4 c5 W hJ hg.1.1 n
end Go.Proofs.Ytbnhhlahbhjogaa.K
