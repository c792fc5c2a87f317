/- The statement JobEdges. -/
import Derived.Test.YtckjgfbfjjiikaaJ9
import Derived.Deep.RegionHeld3
import Derived.BigRegion
set_option linter.unusedVariables false
set_option linter.unusedSimpArgs false
namespace Go.Proofs.Ytckjgfbfjjiikaa.K
open Go.RowKit Go.Proofs.YtckjgfbfjjiikaaW.PrintWords Go.Proofs.YtckjgfbfjjiikaaW.PrintLast Go.Proofs.YtckjgfbfjjiikaaW.PrintMore Go.Proofs.Ytckjgfbfjjiikaa.U Go.Proofs.Ytckjgfbfjjiikaa.T

set_option maxRecDepth 100000 in
set_option maxHeartbeats 12800000 in
theorem jobEdges_in (j : JobD) (wk tr tmo : Int) (A1 A2 A3 A4 A5 : Option Addr) (c1 c2 c3 c4 c5 : Nat) (W : World) (hj : JobC W j A1 A2 A3 A4 A5 c1 c2 c3 c4 c5) (hgs : ∀ l ∈ j.splits, ∀ x ∈ l, GPair x) (which : Int) :
    Calls Try.prog 5 #[.agg #[.slice A1 j.splits.length c1, .int .i64 j.parts, .slice A2 j.map.length c2, .slice A3 j.combine.length c3, .slice A4 j.reduce.length c4, .int .i64 j.chunk, .int .i64 j.window, .int .i64 j.fuel, .slice A5 j.marks.length c5, .int .i64 wk, .int .i64 tr, .int .i64 tmo], .int .i64 which] W fun e w' => e = .returned (.bool true) ∧ Below W.heap.size W w' := by
  have HGSS := Aside0.mk hgs
  clear hgs
  have HJ := Aside0.mk hj
  have hmx1 := Kd.C_max hj.s
  obtain ⟨wb, hwb⟩ : ∃ wb, wb = W.alloc (.cells #[.slice A1 j.splits.length c1, .int .i64 j.parts, .slice A2 j.map.length c2, .slice A3 j.combine.length c3, .slice A4 j.reduce.length c4, .int .i64 j.chunk, .int .i64 j.window, .int .i64 j.fuel, .slice A5 j.marks.length c5, .int .i64 wk, .int .i64 tr, .int .i64 tmo] 28) := ⟨_, rfl⟩
  obtain ⟨g, hg⟩ : ∃ g, g = W.heap.size := ⟨_, rfl⟩
  have hba := (Below.refl W.heap.size W).alloc (Nat.le_refl _) (.cells #[.slice A1 j.splits.length c1, .int .i64 j.parts, .slice A2 j.map.length c2, .slice A3 j.combine.length c3, .slice A4 j.reduce.length c4, .int .i64 j.chunk, .int .i64 j.window, .int .i64 j.fuel, .slice A5 j.marks.length c5, .int .i64 wk, .int .i64 tr, .int .i64 tmo] 28)
  rw [← hwb] at hba
  have hbk : wb.heap[g]? = some (.cells ([.slice A1 j.splits.length c1, .int .i64 j.parts, .slice A2 j.map.length c2, .slice A3 j.combine.length c3, .slice A4 j.reduce.length c4, .int .i64 j.chunk, .int .i64 j.window, .int .i64 j.fuel, .slice A5 j.marks.length c5, .int .i64 wk, .int .i64 tr, .int .i64 tmo]).toArray 28 (0, 0)) := by rw [hwb, hg]; exact alloc_at W _
  have HWB := Aside0.mk hwb
  have HG := Aside0.mk hg
  have HB := Aside0.mk hba
  have HBK := Aside0.mk hbk
  have hJb := HJ.out.below hba
  have HJb := Aside0.mk hJb
  have huc := Try.underlying28
  have huj := Try.underlying26
  clear hwb hg hba hbk hj hJb
  have HH : Aside0 (Held W g j wk tr tmo A1 A2 A3 A4 A5 c1 c2 c3 c4 c5 wb) := ⟨HB.out, HBK.out⟩
  obtain ⟨rc, hrc⟩ := bool_of (CfgMay ⟨j, wk, tr, tmo⟩)
  have HRC := Aside0.mk hrc
  clear hrc
  go_enter Try.func5, Try.ntmps5
  go_upto_region 1 with (fail)
  rw [← HWB.out, ← HG.out]
  have q0 : wb.cell? ⟨g, 0, none⟩ = some (.slice A1 j.splits.length c1) := cell_of_blk HBK.out
  have q1 : wb.cell? ⟨g, 1, none⟩ = some (.int .i64 j.parts) := cell_of_blk HBK.out
  have q2 : wb.cell? ⟨g, 2, none⟩ = some (.slice A2 j.map.length c2) := cell_of_blk HBK.out
  have q3 : wb.cell? ⟨g, 3, none⟩ = some (.slice A3 j.combine.length c3) := cell_of_blk HBK.out
  have q4 : wb.cell? ⟨g, 4, none⟩ = some (.slice A4 j.reduce.length c4) := cell_of_blk HBK.out
  have q5 : wb.cell? ⟨g, 5, none⟩ = some (.int .i64 j.chunk) := cell_of_blk HBK.out
  have q6 : wb.cell? ⟨g, 6, none⟩ = some (.int .i64 j.window) := cell_of_blk HBK.out
  have q7 : wb.cell? ⟨g, 7, none⟩ = some (.int .i64 j.fuel) := cell_of_blk HBK.out
  have q8 : wb.cell? ⟨g, 8, none⟩ = some (.slice A5 j.marks.length c5) := cell_of_blk HBK.out
  go_wp2_with fail
  clear q0 q1 q2 q3 q4 q5 q6 q7 q8
  refine (greatJob j A1 A2 A3 A4 A5 c1 c2 c3 c4 c5 _ HJb.out HGSS.out).mono ?_
  rintro e w1 ⟨⟨r, rfl, _⟩, hb1⟩
  have HH1 := Aside0.mk (HH.out.below hb1)
  clear hb1 HB HBK HJb HH
  cases r with
  | true =>
    go_wp2_with fail
    refine (awakeH _ HH1.out).mono ?_
    rintro e w6 ⟨rfl, hH6⟩
    go_wp2_with fail
    go_ret
    exact ⟨rfl, hH6.1⟩
  | false =>
    have q0 : w1.cell? ⟨g, 0, none⟩ = some (.slice A1 j.splits.length c1) := cell_of_blk HH1.out.2
    have q1 : w1.cell? ⟨g, 1, none⟩ = some (.int .i64 j.parts) := cell_of_blk HH1.out.2
    have q2 : w1.cell? ⟨g, 2, none⟩ = some (.slice A2 j.map.length c2) := cell_of_blk HH1.out.2
    have q3 : w1.cell? ⟨g, 3, none⟩ = some (.slice A3 j.combine.length c3) := cell_of_blk HH1.out.2
    have q4 : w1.cell? ⟨g, 4, none⟩ = some (.slice A4 j.reduce.length c4) := cell_of_blk HH1.out.2
    have q5 : w1.cell? ⟨g, 5, none⟩ = some (.int .i64 j.chunk) := cell_of_blk HH1.out.2
    have q6 : w1.cell? ⟨g, 6, none⟩ = some (.int .i64 j.window) := cell_of_blk HH1.out.2
    have q7 : w1.cell? ⟨g, 7, none⟩ = some (.int .i64 j.fuel) := cell_of_blk HH1.out.2
    have q8 : w1.cell? ⟨g, 8, none⟩ = some (.slice A5 j.marks.length c5) := cell_of_blk HH1.out.2
    have q9 : w1.cell? ⟨g, 9, none⟩ = some (.int .i64 wk) := cell_of_blk HH1.out.2
    have q10 : w1.cell? ⟨g, 10, none⟩ = some (.int .i64 tr) := cell_of_blk HH1.out.2
    have q11 : w1.cell? ⟨g, 11, none⟩ = some (.int .i64 tmo) := cell_of_blk HH1.out.2
    go_wp2_with fail
    clear q0 q1 q2 q3 q4 q5 q6 q7 q8 q9 q10 q11
    refine (cfgMay j wk tr tmo A1 A2 A3 A4 A5 c1 c2 c3 c4 c5 _ (HJ.out.below HH1.out.1) rc HRC.out).mono ?_
    rintro e w2 ⟨rfl, hb2⟩
    have HH2 := Aside0.mk (HH1.out.below hb2)
    clear hb2 HH1
    cases rc with
    | false =>
      go_wp2_with fail
      refine (awakeH _ HH2.out).mono ?_
      rintro e w6 ⟨rfl, hH6⟩
      go_wp2_with fail
      go_ret
      exact ⟨rfl, hH6.1⟩
    | true =>
      have hcm := HRC.out.1 (by simp)
      have HCM := Aside0.mk hcm
      clear hcm HRC
      obtain ⟨lw, hlw⟩ : ∃ q, q = lowN which 8 := ⟨_, rfl⟩
      have rl : 0 ≤ lw ∧ lw < 8 := by rw [hlw]; exact lowN_range _ _ (by omega)
      obtain ⟨rl0, rl1⟩ := rl
      have HLW := Aside0.mk hlw
      clear hlw
      have q0 : w2.cell? ⟨g, 0, none⟩ = some (.slice A1 j.splits.length c1) := cell_of_blk HH2.out.2
      have q1 : w2.cell? ⟨g, 1, none⟩ = some (.int .i64 j.parts) := cell_of_blk HH2.out.2
      have q2 : w2.cell? ⟨g, 2, none⟩ = some (.slice A2 j.map.length c2) := cell_of_blk HH2.out.2
      have q3 : w2.cell? ⟨g, 3, none⟩ = some (.slice A3 j.combine.length c3) := cell_of_blk HH2.out.2
      have q4 : w2.cell? ⟨g, 4, none⟩ = some (.slice A4 j.reduce.length c4) := cell_of_blk HH2.out.2
      have q5 : w2.cell? ⟨g, 5, none⟩ = some (.int .i64 j.chunk) := cell_of_blk HH2.out.2
      have q6 : w2.cell? ⟨g, 6, none⟩ = some (.int .i64 j.window) := cell_of_blk HH2.out.2
      have q7 : w2.cell? ⟨g, 7, none⟩ = some (.int .i64 j.fuel) := cell_of_blk HH2.out.2
      have q8 : w2.cell? ⟨g, 8, none⟩ = some (.slice A5 j.marks.length c5) := cell_of_blk HH2.out.2
      have q9 : w2.cell? ⟨g, 9, none⟩ = some (.int .i64 wk) := cell_of_blk HH2.out.2
      have q10 : w2.cell? ⟨g, 10, none⟩ = some (.int .i64 tr) := cell_of_blk HH2.out.2
      have q11 : w2.cell? ⟨g, 11, none⟩ = some (.int .i64 tmo) := cell_of_blk HH2.out.2
      obtain ⟨gs, hgs⟩ : ∃ x, x = w2.heap.size := ⟨_, rfl⟩
      obtain ⟨gt, hgt⟩ : ∃ x, x = w2.heap.size + 1 := ⟨_, rfl⟩
      obtain ⟨wA, hwA⟩ : ∃ x, x = w2.alloc (.cells #[.slice A1 j.splits.length c1, .int .i64 j.parts, .slice A2 j.map.length c2, .slice A3 j.combine.length c3, .slice A4 j.reduce.length c4, .int .i64 j.chunk, .int .i64 j.window, .int .i64 j.fuel, .slice A5 j.marks.length c5, .int .i64 wk, .int .i64 tr, .int .i64 tmo] 28) := ⟨_, rfl⟩
      obtain ⟨wB, hwB⟩ : ∃ x, x = (wA.alloc (.cells #[.slice A1 j.splits.length c1, .int .i64 j.parts, .slice A2 j.map.length c2, .slice A3 j.combine.length c3, .slice A4 j.reduce.length c4, .int .i64 j.chunk, .int .i64 j.window, .int .i64 j.fuel, .slice A5 j.marks.length c5, .int .i64 wk, .int .i64 tr, .int .i64 tmo] 28)).drew := ⟨_, rfl⟩
      have hsA : wA.heap.size = gt := by rw [hwA, hgt, alloc_sizej]
      have hbs : wB.heap[gs]? = some (.cells ([.slice A1 j.splits.length c1, .int .i64 j.parts, .slice A2 j.map.length c2, .slice A3 j.combine.length c3, .slice A4 j.reduce.length c4, .int .i64 j.chunk, .int .i64 j.window, .int .i64 j.fuel, .slice A5 j.marks.length c5, .int .i64 wk, .int .i64 tr, .int .i64 tmo] : List Value).toArray 28 (0, 0)) := by
        rw [hwB]
        show (wA.alloc _).heap[gs]? = _
        refine alloc_keeps ?_ _
        rw [hwA, hgs]
        exact alloc_at w2 _
      have hbt : wB.heap[gt]? = some (.cells ([.slice A1 j.splits.length c1, .int .i64 j.parts, .slice A2 j.map.length c2, .slice A3 j.combine.length c3, .slice A4 j.reduce.length c4, .int .i64 j.chunk, .int .i64 j.window, .int .i64 j.fuel, .slice A5 j.marks.length c5, .int .i64 wk, .int .i64 tr, .int .i64 tmo] : List Value).toArray 28 (0, 0)) := by
        rw [hwB, ← hsA]
        exact alloc_at wA _
      have hba := HH2.out.1.alloc HH2.out.1.size (.cells #[.slice A1 j.splits.length c1, .int .i64 j.parts, .slice A2 j.map.length c2, .slice A3 j.combine.length c3, .slice A4 j.reduce.length c4, .int .i64 j.chunk, .int .i64 j.window, .int .i64 j.fuel, .slice A5 j.marks.length c5, .int .i64 wk, .int .i64 tr, .int .i64 tmo] 28)
      rw [← hwA] at hba
      have hbb := below_drew1 (hba.alloc hba.size (.cells #[.slice A1 j.splits.length c1, .int .i64 j.parts, .slice A2 j.map.length c2, .slice A3 j.combine.length c3, .slice A4 j.reduce.length c4, .int .i64 j.chunk, .int .i64 j.window, .int .i64 j.fuel, .slice A5 j.marks.length c5, .int .i64 wk, .int .i64 tr, .int .i64 tmo] 28))
      rw [← hwB] at hbb
      have HBB := Aside0.mk hbb
      have HGB : Aside0 (wB.cell? ⟨g, 0, none⟩ = some (.slice A1 j.splits.length c1)) := ⟨by
        rw [hwB]
        have h1 : (wA.alloc (.cells #[.slice A1 j.splits.length c1, .int .i64 j.parts, .slice A2 j.map.length c2, .slice A3 j.combine.length c3, .slice A4 j.reduce.length c4, .int .i64 j.chunk, .int .i64 j.window, .int .i64 j.fuel, .slice A5 j.marks.length c5, .int .i64 wk, .int .i64 tr, .int .i64 tmo] 28)).heap[g]? = some (.cells ([.slice A1 j.splits.length c1, .int .i64 j.parts, .slice A2 j.map.length c2, .slice A3 j.combine.length c3, .slice A4 j.reduce.length c4, .int .i64 j.chunk, .int .i64 j.window, .int .i64 j.fuel, .slice A5 j.marks.length c5, .int .i64 wk, .int .i64 tr, .int .i64 tmo] : List Value).toArray 28 (0, 0)) := alloc_keeps (by rw [hwA]; exact alloc_keeps HH2.out.2 _) _
        exact cell_of_blk (w := (wA.alloc (.cells #[.slice A1 j.splits.length c1, .int .i64 j.parts, .slice A2 j.map.length c2, .slice A3 j.combine.length c3, .slice A4 j.reduce.length c4, .int .i64 j.chunk, .int .i64 j.window, .int .i64 j.fuel, .slice A5 j.marks.length c5, .int .i64 wk, .int .i64 tr, .int .i64 tmo] 28)).drew) h1⟩
      have HBkgs := Aside0.mk hbs
      have HBkgt := Aside0.mk hbt
      have HGS : Aside0 (W.heap.size ≤ gs ∧ gs < gt) := ⟨by have := HH2.out.1.size; omega⟩
      have HPS := Aside0.mk hgs
      have HPT := Aside0.mk hgt
      have HWA2 := Aside0.mk hwA
      have HWB2 := Aside0.mk hwB
      clear hgs hgt hwA hwB hsA hbs hbt hba hbb
      have hgl0 : g < w2.heap.size := blk_lt' HH2.out.2
      have hgl1 : ¬ g = w2.heap.size := by omega
      have hgl2 : ¬ g = w2.heap.size + 1 := by omega
      have hgl3 : g < w2.heap.size + 1 := by omega
      go_wp2_with fail
      go_region
      · clear hgl0 hgl1 hgl2 hgl3 q0 q1 q2 q3 q4 q5 q6 q7 q8 q9 q10 q11
        rw [← HPT.out, ← HPS.out, ← HWA2.out, ← HWB2.out]
        go_wp2_with fail
        refine (low which 8 _ (by omega) (by omega)).mono ?_
        rintro e wB ⟨rfl, rfl⟩
        rw [← HLW.out]
        clear HLW HWB2 HWA2 HPS HPT
        by_cases k0 : lw = 0
        · subst k0
          have hcm := HCM.out
          have hyes : CfgMay ⟨⟨j.splits, 4, j.map, j.combine, j.reduce, j.chunk, j.window, j.fuel, j.marks⟩, wk, tr, tmo⟩ := ⟨⟨hcm.job.splits, ⟨by show (1 : Int) ≤ 4; omega, by show (4 : Int) ≤ 4; omega⟩, hcm.job.marks4, hcm.job.each, hcm.job.marks, hcm.job.map, hcm.job.reduce, hcm.job.combine, hcm.job.chunk, hcm.job.window, hcm.job.fuel⟩, hcm.workers, hcm.tries, hcm.timeout⟩
          have hno : ¬ CfgMay ⟨⟨j.splits, 5, j.map, j.combine, j.reduce, j.chunk, j.window, j.fuel, j.marks⟩, wk, tr, tmo⟩ := fun h => by have h1 := h.job.parts; have h2 : (1 : Int) ≤ 5 := h1.1; have h3 : (5 : Int) ≤ 4 := h1.2; omega
          have HYES := Aside0.mk hyes
          have HNO := Aside0.mk hno
          obtain ⟨w5, hw5⟩ : ∃ w5, w5 = (wB.setCell ⟨gs, 1, none⟩ (.int .i64 4)).setCell ⟨gt, 1, none⟩ (.int .i64 5) := ⟨_, rfl⟩
          have hD5 : w5.heap[gs]? = some (.cells ([.slice A1 j.splits.length c1, .int .i64 4, .slice A2 j.map.length c2, .slice A3 j.combine.length c3, .slice A4 j.reduce.length c4, .int .i64 j.chunk, .int .i64 j.window, .int .i64 j.fuel, .slice A5 j.marks.length c5, .int .i64 wk, .int .i64 tr, .int .i64 tmo] : List Value).toArray 28 (0, 0)) := by rw [hw5]; exact (setCell_other (g := gs) _ _ (by have := HGS.out; show gs ≠ gt; omega)).trans (setCell_blk HBkgs.out _)
          have hE5 : w5.heap[gt]? = some (.cells ([.slice A1 j.splits.length c1, .int .i64 5, .slice A2 j.map.length c2, .slice A3 j.combine.length c3, .slice A4 j.reduce.length c4, .int .i64 j.chunk, .int .i64 j.window, .int .i64 j.fuel, .slice A5 j.marks.length c5, .int .i64 wk, .int .i64 tr, .int .i64 tmo] : List Value).toArray 28 (0, 0)) := by rw [hw5]; exact setCell_blk ((setCell_other (g := gt) _ _ (by have := HGS.out; show gt ≠ gs; omega)).trans HBkgt.out) _
          have hc5 : Ch wB w5 (fun b => b = gs ∨ b = gt) := by rw [hw5]; exact ((Ch.refl wB _).setCell _ _ (.inl rfl)).setCell _ _ (.inr rfl)
          have HB5 := Aside0.mk (Below.ch HBB.out hc5 HBB.out.size (fun b hb => by have := HGS.out; omega))
          have HJ5 : Aside0 (JobC w5 j A1 A2 A3 A4 A5 c1 c2 c3 c4 c5) := ⟨HJ.out.below HB5.out⟩
          have HD5 := Aside0.mk hD5
          have HE5 := Aside0.mk hE5
          have HW5 := Aside0.mk hw5
          have hEs : (wB.setCell ⟨gs, 1, none⟩ (.int .i64 4)).heap[gt]? = some (.cells ([.slice A1 j.splits.length c1, .int .i64 j.parts, .slice A2 j.map.length c2, .slice A3 j.combine.length c3, .slice A4 j.reduce.length c4, .int .i64 j.chunk, .int .i64 j.window, .int .i64 j.fuel, .slice A5 j.marks.length c5, .int .i64 wk, .int .i64 tr, .int .i64 tmo] : List Value).toArray 28 (0, 0)) := (setCell_other (g := gt) _ _ (by have := HGS.out; show gt ≠ gs; omega)).trans HBkgt.out
          have hcD : wB.cell? ⟨gs, 1, none⟩ = some (.int .i64 j.parts) := cell_of_blk HBkgs.out
          have hfD : wB.frozen? ⟨gs, 1, none⟩ = false := frozen_of_blk HBkgs.out
          have hcE : (wB.setCell ⟨gs, 1, none⟩ (.int .i64 4)).cell? ⟨gt, 1, none⟩ = some (.int .i64 j.parts) := cell_of_blk hEs
          have hfE : (wB.setCell ⟨gs, 1, none⟩ (.int .i64 4)).frozen? ⟨gt, 1, none⟩ = false := frozen_of_blk hEs
          have hfE0 : wB.frozen? ⟨gt, 1, none⟩ = false := frozen_of_blk HBkgt.out
          clear hyes hno hw5 hD5 hE5 hc5 hcm hEs
          go_upto_region 20 with (fail)
          clear hcD hfD hcE hfE hfE0
          rw [← HW5.out]
          have q0 : w5.cell? ⟨gs, 0, none⟩ = some (.slice A1 j.splits.length c1) := cell_of_blk HD5.out
          have q1 : w5.cell? ⟨gs, 1, none⟩ = some (.int .i64 4) := cell_of_blk HD5.out
          have q2 : w5.cell? ⟨gs, 2, none⟩ = some (.slice A2 j.map.length c2) := cell_of_blk HD5.out
          have q3 : w5.cell? ⟨gs, 3, none⟩ = some (.slice A3 j.combine.length c3) := cell_of_blk HD5.out
          have q4 : w5.cell? ⟨gs, 4, none⟩ = some (.slice A4 j.reduce.length c4) := cell_of_blk HD5.out
          have q5 : w5.cell? ⟨gs, 5, none⟩ = some (.int .i64 j.chunk) := cell_of_blk HD5.out
          have q6 : w5.cell? ⟨gs, 6, none⟩ = some (.int .i64 j.window) := cell_of_blk HD5.out
          have q7 : w5.cell? ⟨gs, 7, none⟩ = some (.int .i64 j.fuel) := cell_of_blk HD5.out
          have q8 : w5.cell? ⟨gs, 8, none⟩ = some (.slice A5 j.marks.length c5) := cell_of_blk HD5.out
          have q9 : w5.cell? ⟨gs, 9, none⟩ = some (.int .i64 wk) := cell_of_blk HD5.out
          have q10 : w5.cell? ⟨gs, 10, none⟩ = some (.int .i64 tr) := cell_of_blk HD5.out
          have q11 : w5.cell? ⟨gs, 11, none⟩ = some (.int .i64 tmo) := cell_of_blk HD5.out
          go_wp2_with fail
          clear q0 q1 q2 q3 q4 q5 q6 q7 q8 q9 q10 q11
          refine (cfgMay ⟨j.splits, 4, j.map, j.combine, j.reduce, j.chunk, j.window, j.fuel, j.marks⟩ wk tr tmo A1 A2 A3 A4 A5 c1 c2 c3 c4 c5 w5 ⟨HJ5.out.s, HJ5.out.m, HJ5.out.c, HJ5.out.r, HJ5.out.k, HJ5.out.l1, HJ5.out.l2, HJ5.out.l3, HJ5.out.l4, HJ5.out.l5⟩ true ⟨fun _ => HYES.out, fun _ => rfl⟩).mono ?_
          rintro e w6 ⟨rfl, hb6⟩
          have HE6 := Aside0.mk ((hb6.block gt (blk_lt' HE5.out)).trans HE5.out)
          have HJ6 := Aside0.mk (HJ5.out.below hb6)
          have HB6 := Aside0.mk (two_andj _ _ _ HB5.out hb6)
          have q0 : w6.cell? ⟨gt, 0, none⟩ = some (.slice A1 j.splits.length c1) := cell_of_blk HE6.out
          have q1 : w6.cell? ⟨gt, 1, none⟩ = some (.int .i64 5) := cell_of_blk HE6.out
          have q2 : w6.cell? ⟨gt, 2, none⟩ = some (.slice A2 j.map.length c2) := cell_of_blk HE6.out
          have q3 : w6.cell? ⟨gt, 3, none⟩ = some (.slice A3 j.combine.length c3) := cell_of_blk HE6.out
          have q4 : w6.cell? ⟨gt, 4, none⟩ = some (.slice A4 j.reduce.length c4) := cell_of_blk HE6.out
          have q5 : w6.cell? ⟨gt, 5, none⟩ = some (.int .i64 j.chunk) := cell_of_blk HE6.out
          have q6 : w6.cell? ⟨gt, 6, none⟩ = some (.int .i64 j.window) := cell_of_blk HE6.out
          have q7 : w6.cell? ⟨gt, 7, none⟩ = some (.int .i64 j.fuel) := cell_of_blk HE6.out
          have q8 : w6.cell? ⟨gt, 8, none⟩ = some (.slice A5 j.marks.length c5) := cell_of_blk HE6.out
          have q9 : w6.cell? ⟨gt, 9, none⟩ = some (.int .i64 wk) := cell_of_blk HE6.out
          have q10 : w6.cell? ⟨gt, 10, none⟩ = some (.int .i64 tr) := cell_of_blk HE6.out
          have q11 : w6.cell? ⟨gt, 11, none⟩ = some (.int .i64 tmo) := cell_of_blk HE6.out
          clear hb6
          go_wp2_with fail
          clear q0 q1 q2 q3 q4 q5 q6 q7 q8 q9 q10 q11
          refine (cfgMay ⟨j.splits, 5, j.map, j.combine, j.reduce, j.chunk, j.window, j.fuel, j.marks⟩ wk tr tmo A1 A2 A3 A4 A5 c1 c2 c3 c4 c5 w6 ⟨HJ6.out.s, HJ6.out.m, HJ6.out.c, HJ6.out.r, HJ6.out.k, HJ6.out.l1, HJ6.out.l2, HJ6.out.l3, HJ6.out.l4, HJ6.out.l5⟩ false ⟨(fun h => absurd h (by simp)), (fun h => absurd h HNO.out)⟩).mono ?_
          rintro e w7 ⟨rfl, hb7⟩
          have HB7 := Aside0.mk (two_andj _ _ _ HB6.out hb7)
          clear hb7
          go_wp2_with fail
          refine (awake12 _).mono ?_
          rintro e w8 ⟨rfl, hb8⟩
          have HB8 := Aside0.mk (two_andj _ _ _ HB7.out hb8)
          clear hb8
          go_wp2_with fail
          go_ret
          exact ⟨rfl, HB8.out⟩
        · have e0 : (lw == 0) = false := beq_eq_false_iff_ne.2 k0
          by_cases k1 : lw = 1
          · subst k1
            clear k0
            have hcm := HCM.out
            have hyes : CfgMay ⟨⟨j.splits, j.parts, j.map, j.combine, j.reduce, 7, j.window, j.fuel, j.marks⟩, wk, tr, tmo⟩ := ⟨⟨hcm.job.splits, hcm.job.parts, hcm.job.marks4, hcm.job.each, hcm.job.marks, hcm.job.map, hcm.job.reduce, hcm.job.combine, ⟨by show (1 : Int) ≤ 7; omega, by show (7 : Int) ≤ 7; omega⟩, hcm.job.window, hcm.job.fuel⟩, hcm.workers, hcm.tries, hcm.timeout⟩
            have hno : ¬ CfgMay ⟨⟨j.splits, j.parts, j.map, j.combine, j.reduce, 8, j.window, j.fuel, j.marks⟩, wk, tr, tmo⟩ := fun h => by have h1 := h.job.chunk; have h2 : (1 : Int) ≤ 8 := h1.1; have h3 : (8 : Int) ≤ 7 := h1.2; omega
            have HYES := Aside0.mk hyes
            have HNO := Aside0.mk hno
            obtain ⟨w5, hw5⟩ : ∃ w5, w5 = (wB.setCell ⟨gs, 5, none⟩ (.int .i64 7)).setCell ⟨gt, 5, none⟩ (.int .i64 8) := ⟨_, rfl⟩
            have hD5 : w5.heap[gs]? = some (.cells ([.slice A1 j.splits.length c1, .int .i64 j.parts, .slice A2 j.map.length c2, .slice A3 j.combine.length c3, .slice A4 j.reduce.length c4, .int .i64 7, .int .i64 j.window, .int .i64 j.fuel, .slice A5 j.marks.length c5, .int .i64 wk, .int .i64 tr, .int .i64 tmo] : List Value).toArray 28 (0, 0)) := by rw [hw5]; exact (setCell_other (g := gs) _ _ (by have := HGS.out; show gs ≠ gt; omega)).trans (setCell_blk HBkgs.out _)
            have hE5 : w5.heap[gt]? = some (.cells ([.slice A1 j.splits.length c1, .int .i64 j.parts, .slice A2 j.map.length c2, .slice A3 j.combine.length c3, .slice A4 j.reduce.length c4, .int .i64 8, .int .i64 j.window, .int .i64 j.fuel, .slice A5 j.marks.length c5, .int .i64 wk, .int .i64 tr, .int .i64 tmo] : List Value).toArray 28 (0, 0)) := by rw [hw5]; exact setCell_blk ((setCell_other (g := gt) _ _ (by have := HGS.out; show gt ≠ gs; omega)).trans HBkgt.out) _
            have hc5 : Ch wB w5 (fun b => b = gs ∨ b = gt) := by rw [hw5]; exact ((Ch.refl wB _).setCell _ _ (.inl rfl)).setCell _ _ (.inr rfl)
            have HB5 := Aside0.mk (Below.ch HBB.out hc5 HBB.out.size (fun b hb => by have := HGS.out; omega))
            have HJ5 : Aside0 (JobC w5 j A1 A2 A3 A4 A5 c1 c2 c3 c4 c5) := ⟨HJ.out.below HB5.out⟩
            have HD5 := Aside0.mk hD5
            have HE5 := Aside0.mk hE5
            have HW5 := Aside0.mk hw5
            have hEs : (wB.setCell ⟨gs, 5, none⟩ (.int .i64 7)).heap[gt]? = some (.cells ([.slice A1 j.splits.length c1, .int .i64 j.parts, .slice A2 j.map.length c2, .slice A3 j.combine.length c3, .slice A4 j.reduce.length c4, .int .i64 j.chunk, .int .i64 j.window, .int .i64 j.fuel, .slice A5 j.marks.length c5, .int .i64 wk, .int .i64 tr, .int .i64 tmo] : List Value).toArray 28 (0, 0)) := (setCell_other (g := gt) _ _ (by have := HGS.out; show gt ≠ gs; omega)).trans HBkgt.out
            have hcD : wB.cell? ⟨gs, 5, none⟩ = some (.int .i64 j.chunk) := cell_of_blk HBkgs.out
            have hfD : wB.frozen? ⟨gs, 5, none⟩ = false := frozen_of_blk HBkgs.out
            have hcE : (wB.setCell ⟨gs, 5, none⟩ (.int .i64 7)).cell? ⟨gt, 5, none⟩ = some (.int .i64 j.chunk) := cell_of_blk hEs
            have hfE : (wB.setCell ⟨gs, 5, none⟩ (.int .i64 7)).frozen? ⟨gt, 5, none⟩ = false := frozen_of_blk hEs
            have hfE0 : wB.frozen? ⟨gt, 5, none⟩ = false := frozen_of_blk HBkgt.out
            clear hyes hno hw5 hD5 hE5 hc5 hcm hEs
            go_upto_region 20 with (fail)
            clear hcD hfD hcE hfE hfE0
            rw [← HW5.out]
            have q0 : w5.cell? ⟨gs, 0, none⟩ = some (.slice A1 j.splits.length c1) := cell_of_blk HD5.out
            have q1 : w5.cell? ⟨gs, 1, none⟩ = some (.int .i64 j.parts) := cell_of_blk HD5.out
            have q2 : w5.cell? ⟨gs, 2, none⟩ = some (.slice A2 j.map.length c2) := cell_of_blk HD5.out
            have q3 : w5.cell? ⟨gs, 3, none⟩ = some (.slice A3 j.combine.length c3) := cell_of_blk HD5.out
            have q4 : w5.cell? ⟨gs, 4, none⟩ = some (.slice A4 j.reduce.length c4) := cell_of_blk HD5.out
            have q5 : w5.cell? ⟨gs, 5, none⟩ = some (.int .i64 7) := cell_of_blk HD5.out
            have q6 : w5.cell? ⟨gs, 6, none⟩ = some (.int .i64 j.window) := cell_of_blk HD5.out
            have q7 : w5.cell? ⟨gs, 7, none⟩ = some (.int .i64 j.fuel) := cell_of_blk HD5.out
            have q8 : w5.cell? ⟨gs, 8, none⟩ = some (.slice A5 j.marks.length c5) := cell_of_blk HD5.out
            have q9 : w5.cell? ⟨gs, 9, none⟩ = some (.int .i64 wk) := cell_of_blk HD5.out
            have q10 : w5.cell? ⟨gs, 10, none⟩ = some (.int .i64 tr) := cell_of_blk HD5.out
            have q11 : w5.cell? ⟨gs, 11, none⟩ = some (.int .i64 tmo) := cell_of_blk HD5.out
            go_wp2_with fail
            clear q0 q1 q2 q3 q4 q5 q6 q7 q8 q9 q10 q11
            refine (cfgMay ⟨j.splits, j.parts, j.map, j.combine, j.reduce, 7, j.window, j.fuel, j.marks⟩ wk tr tmo A1 A2 A3 A4 A5 c1 c2 c3 c4 c5 w5 ⟨HJ5.out.s, HJ5.out.m, HJ5.out.c, HJ5.out.r, HJ5.out.k, HJ5.out.l1, HJ5.out.l2, HJ5.out.l3, HJ5.out.l4, HJ5.out.l5⟩ true ⟨fun _ => HYES.out, fun _ => rfl⟩).mono ?_
            rintro e w6 ⟨rfl, hb6⟩
            have HE6 := Aside0.mk ((hb6.block gt (blk_lt' HE5.out)).trans HE5.out)
            have HJ6 := Aside0.mk (HJ5.out.below hb6)
            have HB6 := Aside0.mk (two_andj _ _ _ HB5.out hb6)
            have q0 : w6.cell? ⟨gt, 0, none⟩ = some (.slice A1 j.splits.length c1) := cell_of_blk HE6.out
            have q1 : w6.cell? ⟨gt, 1, none⟩ = some (.int .i64 j.parts) := cell_of_blk HE6.out
            have q2 : w6.cell? ⟨gt, 2, none⟩ = some (.slice A2 j.map.length c2) := cell_of_blk HE6.out
            have q3 : w6.cell? ⟨gt, 3, none⟩ = some (.slice A3 j.combine.length c3) := cell_of_blk HE6.out
            have q4 : w6.cell? ⟨gt, 4, none⟩ = some (.slice A4 j.reduce.length c4) := cell_of_blk HE6.out
            have q5 : w6.cell? ⟨gt, 5, none⟩ = some (.int .i64 8) := cell_of_blk HE6.out
            have q6 : w6.cell? ⟨gt, 6, none⟩ = some (.int .i64 j.window) := cell_of_blk HE6.out
            have q7 : w6.cell? ⟨gt, 7, none⟩ = some (.int .i64 j.fuel) := cell_of_blk HE6.out
            have q8 : w6.cell? ⟨gt, 8, none⟩ = some (.slice A5 j.marks.length c5) := cell_of_blk HE6.out
            have q9 : w6.cell? ⟨gt, 9, none⟩ = some (.int .i64 wk) := cell_of_blk HE6.out
            have q10 : w6.cell? ⟨gt, 10, none⟩ = some (.int .i64 tr) := cell_of_blk HE6.out
            have q11 : w6.cell? ⟨gt, 11, none⟩ = some (.int .i64 tmo) := cell_of_blk HE6.out
            clear hb6
            go_wp2_with fail
            clear q0 q1 q2 q3 q4 q5 q6 q7 q8 q9 q10 q11
            refine (cfgMay ⟨j.splits, j.parts, j.map, j.combine, j.reduce, 8, j.window, j.fuel, j.marks⟩ wk tr tmo A1 A2 A3 A4 A5 c1 c2 c3 c4 c5 w6 ⟨HJ6.out.s, HJ6.out.m, HJ6.out.c, HJ6.out.r, HJ6.out.k, HJ6.out.l1, HJ6.out.l2, HJ6.out.l3, HJ6.out.l4, HJ6.out.l5⟩ false ⟨(fun h => absurd h (by simp)), (fun h => absurd h HNO.out)⟩).mono ?_
            rintro e w7 ⟨rfl, hb7⟩
            have HB7 := Aside0.mk (two_andj _ _ _ HB6.out hb7)
            clear hb7
            go_wp2_with fail
            refine (awake12 _).mono ?_
            rintro e w8 ⟨rfl, hb8⟩
            have HB8 := Aside0.mk (two_andj _ _ _ HB7.out hb8)
            clear hb8
            go_wp2_with fail
            go_ret
            exact ⟨rfl, HB8.out⟩
          · have e1 : (lw == 1) = false := beq_eq_false_iff_ne.2 k1
            by_cases k2 : lw = 2
            · subst k2
              clear k0 k1
              have hcm := HCM.out
              have hyes : CfgMay ⟨⟨j.splits, j.parts, j.map, j.combine, j.reduce, j.chunk, 4, j.fuel, j.marks⟩, wk, tr, tmo⟩ := ⟨⟨hcm.job.splits, hcm.job.parts, hcm.job.marks4, hcm.job.each, hcm.job.marks, hcm.job.map, hcm.job.reduce, hcm.job.combine, hcm.job.chunk, ⟨by show (1 : Int) ≤ 4; omega, by show (4 : Int) ≤ 4; omega⟩, hcm.job.fuel⟩, hcm.workers, hcm.tries, hcm.timeout⟩
              have hno : ¬ CfgMay ⟨⟨j.splits, j.parts, j.map, j.combine, j.reduce, j.chunk, 0, j.fuel, j.marks⟩, wk, tr, tmo⟩ := fun h => by have h1 := h.job.window; have h2 : (1 : Int) ≤ 0 := h1.1; have h3 : (0 : Int) ≤ 4 := h1.2; omega
              have HYES := Aside0.mk hyes
              have HNO := Aside0.mk hno
              obtain ⟨w5, hw5⟩ : ∃ w5, w5 = (wB.setCell ⟨gs, 6, none⟩ (.int .i64 4)).setCell ⟨gt, 6, none⟩ (.int .i64 0) := ⟨_, rfl⟩
              have hD5 : w5.heap[gs]? = some (.cells ([.slice A1 j.splits.length c1, .int .i64 j.parts, .slice A2 j.map.length c2, .slice A3 j.combine.length c3, .slice A4 j.reduce.length c4, .int .i64 j.chunk, .int .i64 4, .int .i64 j.fuel, .slice A5 j.marks.length c5, .int .i64 wk, .int .i64 tr, .int .i64 tmo] : List Value).toArray 28 (0, 0)) := by rw [hw5]; exact (setCell_other (g := gs) _ _ (by have := HGS.out; show gs ≠ gt; omega)).trans (setCell_blk HBkgs.out _)
              have hE5 : w5.heap[gt]? = some (.cells ([.slice A1 j.splits.length c1, .int .i64 j.parts, .slice A2 j.map.length c2, .slice A3 j.combine.length c3, .slice A4 j.reduce.length c4, .int .i64 j.chunk, .int .i64 0, .int .i64 j.fuel, .slice A5 j.marks.length c5, .int .i64 wk, .int .i64 tr, .int .i64 tmo] : List Value).toArray 28 (0, 0)) := by rw [hw5]; exact setCell_blk ((setCell_other (g := gt) _ _ (by have := HGS.out; show gt ≠ gs; omega)).trans HBkgt.out) _
              have hc5 : Ch wB w5 (fun b => b = gs ∨ b = gt) := by rw [hw5]; exact ((Ch.refl wB _).setCell _ _ (.inl rfl)).setCell _ _ (.inr rfl)
              have HB5 := Aside0.mk (Below.ch HBB.out hc5 HBB.out.size (fun b hb => by have := HGS.out; omega))
              have HJ5 : Aside0 (JobC w5 j A1 A2 A3 A4 A5 c1 c2 c3 c4 c5) := ⟨HJ.out.below HB5.out⟩
              have HD5 := Aside0.mk hD5
              have HE5 := Aside0.mk hE5
              have HW5 := Aside0.mk hw5
              have hEs : (wB.setCell ⟨gs, 6, none⟩ (.int .i64 4)).heap[gt]? = some (.cells ([.slice A1 j.splits.length c1, .int .i64 j.parts, .slice A2 j.map.length c2, .slice A3 j.combine.length c3, .slice A4 j.reduce.length c4, .int .i64 j.chunk, .int .i64 j.window, .int .i64 j.fuel, .slice A5 j.marks.length c5, .int .i64 wk, .int .i64 tr, .int .i64 tmo] : List Value).toArray 28 (0, 0)) := (setCell_other (g := gt) _ _ (by have := HGS.out; show gt ≠ gs; omega)).trans HBkgt.out
              have hcD : wB.cell? ⟨gs, 6, none⟩ = some (.int .i64 j.window) := cell_of_blk HBkgs.out
              have hfD : wB.frozen? ⟨gs, 6, none⟩ = false := frozen_of_blk HBkgs.out
              have hcE : (wB.setCell ⟨gs, 6, none⟩ (.int .i64 4)).cell? ⟨gt, 6, none⟩ = some (.int .i64 j.window) := cell_of_blk hEs
              have hfE : (wB.setCell ⟨gs, 6, none⟩ (.int .i64 4)).frozen? ⟨gt, 6, none⟩ = false := frozen_of_blk hEs
              have hfE0 : wB.frozen? ⟨gt, 6, none⟩ = false := frozen_of_blk HBkgt.out
              clear hyes hno hw5 hD5 hE5 hc5 hcm hEs
              go_upto_region 20 with (fail)
              clear hcD hfD hcE hfE hfE0
              rw [← HW5.out]
              have q0 : w5.cell? ⟨gs, 0, none⟩ = some (.slice A1 j.splits.length c1) := cell_of_blk HD5.out
              have q1 : w5.cell? ⟨gs, 1, none⟩ = some (.int .i64 j.parts) := cell_of_blk HD5.out
              have q2 : w5.cell? ⟨gs, 2, none⟩ = some (.slice A2 j.map.length c2) := cell_of_blk HD5.out
              have q3 : w5.cell? ⟨gs, 3, none⟩ = some (.slice A3 j.combine.length c3) := cell_of_blk HD5.out
              have q4 : w5.cell? ⟨gs, 4, none⟩ = some (.slice A4 j.reduce.length c4) := cell_of_blk HD5.out
              have q5 : w5.cell? ⟨gs, 5, none⟩ = some (.int .i64 j.chunk) := cell_of_blk HD5.out
              have q6 : w5.cell? ⟨gs, 6, none⟩ = some (.int .i64 4) := cell_of_blk HD5.out
              have q7 : w5.cell? ⟨gs, 7, none⟩ = some (.int .i64 j.fuel) := cell_of_blk HD5.out
              have q8 : w5.cell? ⟨gs, 8, none⟩ = some (.slice A5 j.marks.length c5) := cell_of_blk HD5.out
              have q9 : w5.cell? ⟨gs, 9, none⟩ = some (.int .i64 wk) := cell_of_blk HD5.out
              have q10 : w5.cell? ⟨gs, 10, none⟩ = some (.int .i64 tr) := cell_of_blk HD5.out
              have q11 : w5.cell? ⟨gs, 11, none⟩ = some (.int .i64 tmo) := cell_of_blk HD5.out
              go_wp2_with fail
              clear q0 q1 q2 q3 q4 q5 q6 q7 q8 q9 q10 q11
              refine (cfgMay ⟨j.splits, j.parts, j.map, j.combine, j.reduce, j.chunk, 4, j.fuel, j.marks⟩ wk tr tmo A1 A2 A3 A4 A5 c1 c2 c3 c4 c5 w5 ⟨HJ5.out.s, HJ5.out.m, HJ5.out.c, HJ5.out.r, HJ5.out.k, HJ5.out.l1, HJ5.out.l2, HJ5.out.l3, HJ5.out.l4, HJ5.out.l5⟩ true ⟨fun _ => HYES.out, fun _ => rfl⟩).mono ?_
              rintro e w6 ⟨rfl, hb6⟩
              have HE6 := Aside0.mk ((hb6.block gt (blk_lt' HE5.out)).trans HE5.out)
              have HJ6 := Aside0.mk (HJ5.out.below hb6)
              have HB6 := Aside0.mk (two_andj _ _ _ HB5.out hb6)
              have q0 : w6.cell? ⟨gt, 0, none⟩ = some (.slice A1 j.splits.length c1) := cell_of_blk HE6.out
              have q1 : w6.cell? ⟨gt, 1, none⟩ = some (.int .i64 j.parts) := cell_of_blk HE6.out
              have q2 : w6.cell? ⟨gt, 2, none⟩ = some (.slice A2 j.map.length c2) := cell_of_blk HE6.out
              have q3 : w6.cell? ⟨gt, 3, none⟩ = some (.slice A3 j.combine.length c3) := cell_of_blk HE6.out
              have q4 : w6.cell? ⟨gt, 4, none⟩ = some (.slice A4 j.reduce.length c4) := cell_of_blk HE6.out
              have q5 : w6.cell? ⟨gt, 5, none⟩ = some (.int .i64 j.chunk) := cell_of_blk HE6.out
              have q6 : w6.cell? ⟨gt, 6, none⟩ = some (.int .i64 0) := cell_of_blk HE6.out
              have q7 : w6.cell? ⟨gt, 7, none⟩ = some (.int .i64 j.fuel) := cell_of_blk HE6.out
              have q8 : w6.cell? ⟨gt, 8, none⟩ = some (.slice A5 j.marks.length c5) := cell_of_blk HE6.out
              have q9 : w6.cell? ⟨gt, 9, none⟩ = some (.int .i64 wk) := cell_of_blk HE6.out
              have q10 : w6.cell? ⟨gt, 10, none⟩ = some (.int .i64 tr) := cell_of_blk HE6.out
              have q11 : w6.cell? ⟨gt, 11, none⟩ = some (.int .i64 tmo) := cell_of_blk HE6.out
              clear hb6
              go_wp2_with fail
              clear q0 q1 q2 q3 q4 q5 q6 q7 q8 q9 q10 q11
              refine (cfgMay ⟨j.splits, j.parts, j.map, j.combine, j.reduce, j.chunk, 0, j.fuel, j.marks⟩ wk tr tmo A1 A2 A3 A4 A5 c1 c2 c3 c4 c5 w6 ⟨HJ6.out.s, HJ6.out.m, HJ6.out.c, HJ6.out.r, HJ6.out.k, HJ6.out.l1, HJ6.out.l2, HJ6.out.l3, HJ6.out.l4, HJ6.out.l5⟩ false ⟨(fun h => absurd h (by simp)), (fun h => absurd h HNO.out)⟩).mono ?_
              rintro e w7 ⟨rfl, hb7⟩
              have HB7 := Aside0.mk (two_andj _ _ _ HB6.out hb7)
              clear hb7
              go_wp2_with fail
              refine (awake12 _).mono ?_
              rintro e w8 ⟨rfl, hb8⟩
              have HB8 := Aside0.mk (two_andj _ _ _ HB7.out hb8)
              clear hb8
              go_wp2_with fail
              go_ret
              exact ⟨rfl, HB8.out⟩
            · have e2 : (lw == 2) = false := beq_eq_false_iff_ne.2 k2
              by_cases k3 : lw = 3
              · subst k3
                clear k0 k1 k2
                have hcm := HCM.out
                have hyes : CfgMay ⟨⟨j.splits, j.parts, j.map, j.combine, j.reduce, j.chunk, j.window, 2000, j.marks⟩, wk, tr, tmo⟩ := ⟨⟨hcm.job.splits, hcm.job.parts, hcm.job.marks4, hcm.job.each, hcm.job.marks, hcm.job.map, hcm.job.reduce, hcm.job.combine, hcm.job.chunk, hcm.job.window, ⟨by show (1 : Int) ≤ 2000; omega, by show (2000 : Int) ≤ 2000; omega⟩⟩, hcm.workers, hcm.tries, hcm.timeout⟩
                have hno : ¬ CfgMay ⟨⟨j.splits, j.parts, j.map, j.combine, j.reduce, j.chunk, j.window, 2001, j.marks⟩, wk, tr, tmo⟩ := fun h => by have h1 := h.job.fuel; have h2 : (1 : Int) ≤ 2001 := h1.1; have h3 : (2001 : Int) ≤ 2000 := h1.2; omega
                have HYES := Aside0.mk hyes
                have HNO := Aside0.mk hno
                obtain ⟨w5, hw5⟩ : ∃ w5, w5 = (wB.setCell ⟨gs, 7, none⟩ (.int .i64 2000)).setCell ⟨gt, 7, none⟩ (.int .i64 2001) := ⟨_, rfl⟩
                have hD5 : w5.heap[gs]? = some (.cells ([.slice A1 j.splits.length c1, .int .i64 j.parts, .slice A2 j.map.length c2, .slice A3 j.combine.length c3, .slice A4 j.reduce.length c4, .int .i64 j.chunk, .int .i64 j.window, .int .i64 2000, .slice A5 j.marks.length c5, .int .i64 wk, .int .i64 tr, .int .i64 tmo] : List Value).toArray 28 (0, 0)) := by rw [hw5]; exact (setCell_other (g := gs) _ _ (by have := HGS.out; show gs ≠ gt; omega)).trans (setCell_blk HBkgs.out _)
                have hE5 : w5.heap[gt]? = some (.cells ([.slice A1 j.splits.length c1, .int .i64 j.parts, .slice A2 j.map.length c2, .slice A3 j.combine.length c3, .slice A4 j.reduce.length c4, .int .i64 j.chunk, .int .i64 j.window, .int .i64 2001, .slice A5 j.marks.length c5, .int .i64 wk, .int .i64 tr, .int .i64 tmo] : List Value).toArray 28 (0, 0)) := by rw [hw5]; exact setCell_blk ((setCell_other (g := gt) _ _ (by have := HGS.out; show gt ≠ gs; omega)).trans HBkgt.out) _
                have hc5 : Ch wB w5 (fun b => b = gs ∨ b = gt) := by rw [hw5]; exact ((Ch.refl wB _).setCell _ _ (.inl rfl)).setCell _ _ (.inr rfl)
                have HB5 := Aside0.mk (Below.ch HBB.out hc5 HBB.out.size (fun b hb => by have := HGS.out; omega))
                have HJ5 : Aside0 (JobC w5 j A1 A2 A3 A4 A5 c1 c2 c3 c4 c5) := ⟨HJ.out.below HB5.out⟩
                have HD5 := Aside0.mk hD5
                have HE5 := Aside0.mk hE5
                have HW5 := Aside0.mk hw5
                have hEs : (wB.setCell ⟨gs, 7, none⟩ (.int .i64 2000)).heap[gt]? = some (.cells ([.slice A1 j.splits.length c1, .int .i64 j.parts, .slice A2 j.map.length c2, .slice A3 j.combine.length c3, .slice A4 j.reduce.length c4, .int .i64 j.chunk, .int .i64 j.window, .int .i64 j.fuel, .slice A5 j.marks.length c5, .int .i64 wk, .int .i64 tr, .int .i64 tmo] : List Value).toArray 28 (0, 0)) := (setCell_other (g := gt) _ _ (by have := HGS.out; show gt ≠ gs; omega)).trans HBkgt.out
                have hcD : wB.cell? ⟨gs, 7, none⟩ = some (.int .i64 j.fuel) := cell_of_blk HBkgs.out
                have hfD : wB.frozen? ⟨gs, 7, none⟩ = false := frozen_of_blk HBkgs.out
                have hcE : (wB.setCell ⟨gs, 7, none⟩ (.int .i64 2000)).cell? ⟨gt, 7, none⟩ = some (.int .i64 j.fuel) := cell_of_blk hEs
                have hfE : (wB.setCell ⟨gs, 7, none⟩ (.int .i64 2000)).frozen? ⟨gt, 7, none⟩ = false := frozen_of_blk hEs
                have hfE0 : wB.frozen? ⟨gt, 7, none⟩ = false := frozen_of_blk HBkgt.out
                clear hyes hno hw5 hD5 hE5 hc5 hcm hEs
                go_upto_region 20 with (fail)
                clear hcD hfD hcE hfE hfE0
                rw [← HW5.out]
                have q0 : w5.cell? ⟨gs, 0, none⟩ = some (.slice A1 j.splits.length c1) := cell_of_blk HD5.out
                have q1 : w5.cell? ⟨gs, 1, none⟩ = some (.int .i64 j.parts) := cell_of_blk HD5.out
                have q2 : w5.cell? ⟨gs, 2, none⟩ = some (.slice A2 j.map.length c2) := cell_of_blk HD5.out
                have q3 : w5.cell? ⟨gs, 3, none⟩ = some (.slice A3 j.combine.length c3) := cell_of_blk HD5.out
                have q4 : w5.cell? ⟨gs, 4, none⟩ = some (.slice A4 j.reduce.length c4) := cell_of_blk HD5.out
                have q5 : w5.cell? ⟨gs, 5, none⟩ = some (.int .i64 j.chunk) := cell_of_blk HD5.out
                have q6 : w5.cell? ⟨gs, 6, none⟩ = some (.int .i64 j.window) := cell_of_blk HD5.out
                have q7 : w5.cell? ⟨gs, 7, none⟩ = some (.int .i64 2000) := cell_of_blk HD5.out
                have q8 : w5.cell? ⟨gs, 8, none⟩ = some (.slice A5 j.marks.length c5) := cell_of_blk HD5.out
                have q9 : w5.cell? ⟨gs, 9, none⟩ = some (.int .i64 wk) := cell_of_blk HD5.out
                have q10 : w5.cell? ⟨gs, 10, none⟩ = some (.int .i64 tr) := cell_of_blk HD5.out
                have q11 : w5.cell? ⟨gs, 11, none⟩ = some (.int .i64 tmo) := cell_of_blk HD5.out
                go_wp2_with fail
                clear q0 q1 q2 q3 q4 q5 q6 q7 q8 q9 q10 q11
                refine (cfgMay ⟨j.splits, j.parts, j.map, j.combine, j.reduce, j.chunk, j.window, 2000, j.marks⟩ wk tr tmo A1 A2 A3 A4 A5 c1 c2 c3 c4 c5 w5 ⟨HJ5.out.s, HJ5.out.m, HJ5.out.c, HJ5.out.r, HJ5.out.k, HJ5.out.l1, HJ5.out.l2, HJ5.out.l3, HJ5.out.l4, HJ5.out.l5⟩ true ⟨fun _ => HYES.out, fun _ => rfl⟩).mono ?_
                rintro e w6 ⟨rfl, hb6⟩
                have HE6 := Aside0.mk ((hb6.block gt (blk_lt' HE5.out)).trans HE5.out)
                have HJ6 := Aside0.mk (HJ5.out.below hb6)
                have HB6 := Aside0.mk (two_andj _ _ _ HB5.out hb6)
                have q0 : w6.cell? ⟨gt, 0, none⟩ = some (.slice A1 j.splits.length c1) := cell_of_blk HE6.out
                have q1 : w6.cell? ⟨gt, 1, none⟩ = some (.int .i64 j.parts) := cell_of_blk HE6.out
                have q2 : w6.cell? ⟨gt, 2, none⟩ = some (.slice A2 j.map.length c2) := cell_of_blk HE6.out
                have q3 : w6.cell? ⟨gt, 3, none⟩ = some (.slice A3 j.combine.length c3) := cell_of_blk HE6.out
                have q4 : w6.cell? ⟨gt, 4, none⟩ = some (.slice A4 j.reduce.length c4) := cell_of_blk HE6.out
                have q5 : w6.cell? ⟨gt, 5, none⟩ = some (.int .i64 j.chunk) := cell_of_blk HE6.out
                have q6 : w6.cell? ⟨gt, 6, none⟩ = some (.int .i64 j.window) := cell_of_blk HE6.out
                have q7 : w6.cell? ⟨gt, 7, none⟩ = some (.int .i64 2001) := cell_of_blk HE6.out
                have q8 : w6.cell? ⟨gt, 8, none⟩ = some (.slice A5 j.marks.length c5) := cell_of_blk HE6.out
                have q9 : w6.cell? ⟨gt, 9, none⟩ = some (.int .i64 wk) := cell_of_blk HE6.out
                have q10 : w6.cell? ⟨gt, 10, none⟩ = some (.int .i64 tr) := cell_of_blk HE6.out
                have q11 : w6.cell? ⟨gt, 11, none⟩ = some (.int .i64 tmo) := cell_of_blk HE6.out
                clear hb6
                go_wp2_with fail
                clear q0 q1 q2 q3 q4 q5 q6 q7 q8 q9 q10 q11
                refine (cfgMay ⟨j.splits, j.parts, j.map, j.combine, j.reduce, j.chunk, j.window, 2001, j.marks⟩ wk tr tmo A1 A2 A3 A4 A5 c1 c2 c3 c4 c5 w6 ⟨HJ6.out.s, HJ6.out.m, HJ6.out.c, HJ6.out.r, HJ6.out.k, HJ6.out.l1, HJ6.out.l2, HJ6.out.l3, HJ6.out.l4, HJ6.out.l5⟩ false ⟨(fun h => absurd h (by simp)), (fun h => absurd h HNO.out)⟩).mono ?_
                rintro e w7 ⟨rfl, hb7⟩
                have HB7 := Aside0.mk (two_andj _ _ _ HB6.out hb7)
                clear hb7
                go_wp2_with fail
                refine (awake12 _).mono ?_
                rintro e w8 ⟨rfl, hb8⟩
                have HB8 := Aside0.mk (two_andj _ _ _ HB7.out hb8)
                clear hb8
                go_wp2_with fail
                go_ret
                exact ⟨rfl, HB8.out⟩
              · have e3 : (lw == 3) = false := beq_eq_false_iff_ne.2 k3
                by_cases k4 : lw = 4
                · subst k4
                  clear k0 k1 k2 k3
                  have hl6 : (j.splits.length : Int) ≤ 6 := HCM.out.job.splits.2
                  have hw1 : IntKind.i64.wrap ((j.splits.length : Int) + 1) = (j.splits.length : Int) + 1 := IntWalk.i64_in _ (by omega)
                  have hcD : wB.cell? ⟨gs, 8, none⟩ = some (.slice A5 j.marks.length c5) := cell_of_blk HBkgs.out
                  have hcE : wB.cell? ⟨gt, 8, none⟩ = some (.slice A5 j.marks.length c5) := cell_of_blk HBkgt.out
                  have hfD : wB.frozen? ⟨gs, 8, none⟩ = false := frozen_of_blk HBkgs.out
                  have hfE : wB.frozen? ⟨gt, 8, none⟩ = false := frozen_of_blk HBkgt.out
                  have hc0 := HGB.out
                  have hlD : gs < wB.heap.size := blk_lt' HBkgs.out
                  have hlE : gt < wB.heap.size := blk_lt' HBkgt.out
                  have hlg : g < wB.heap.size := World.block_lt_of_cell? wB _ hc0
                  have hn1 : ¬ gs = wB.heap.size := by omega
                  have hn2 : ¬ gt = wB.heap.size := by omega
                  have hn3 : ¬ g = wB.heap.size := by omega
                  have hn4 : ¬ gs = gt := by have := HGS.out; omega
                  have hn5 : ¬ gt = gs := by have := HGS.out; omega
                  have hl1 : gs < wB.heap.size + 1 := by omega
                  have hl2 : gt < wB.heap.size + 1 := by omega
                  have hl3 : g < wB.heap.size + 1 := by omega
                  go_wp2_with fail
                  go_region
                  · clear hw1 hcD hcE hfD hfE hc0 hlD hlE hlg hn1 hn2 hn3 hn4 hn5 hl1 hl2 hl3
                    have hcm := HCM.out
                    have hs1 : 1 ≤ (j.splits.length : Int) := hcm.job.splits.1
                    have hyes : CfgMay ⟨⟨j.splits, j.parts, j.map, j.combine, j.reduce, j.chunk, j.window, j.fuel, [(j.splits.length : Int)]⟩, wk, tr, tmo⟩ := ⟨⟨hcm.job.splits, hcm.job.parts, by show 1 ≤ 4; omega, hcm.job.each, (fun i hi => by
                      have h0 : i = 0 := by have : i < 1 := hi; omega
                      subst h0
                      exact ⟨by show (0 : Int) < (j.splits.length : Int); omega, Int.le_refl _⟩), hcm.job.map, hcm.job.reduce, hcm.job.combine, hcm.job.chunk, hcm.job.window, hcm.job.fuel⟩, hcm.workers, hcm.tries, hcm.timeout⟩
                    have hno : ¬ CfgMay ⟨⟨j.splits, j.parts, j.map, j.combine, j.reduce, j.chunk, j.window, j.fuel, [(j.splits.length : Int) + 1]⟩, wk, tr, tmo⟩ := fun h => by
                      have h1 : (j.splits.length : Int) + 1 ≤ (j.splits.length : Int) := (h.job.marks 0 (by show 0 < 1; omega)).2
                      omega
                    have HYES := Aside0.mk hyes
                    have HNO := Aside0.mk hno
                    obtain ⟨p0, hp0⟩ : ∃ x, x = wB.heap.size := ⟨_, rfl⟩
                    obtain ⟨p1, hp1⟩ : ∃ x, x = wB.heap.size + 1 := ⟨_, rfl⟩
                    obtain ⟨wS, hwS⟩ : ∃ x, x = (wB.setCell ⟨gs, 8, none⟩ (.slice (some ⟨p0, 0, none⟩) 1 1)).setCell ⟨gt, 8, none⟩ (.slice (some ⟨p1, 0, none⟩) 1 1) := ⟨_, rfl⟩
                    obtain ⟨w5, hw5⟩ : ∃ x, x = ((wS.alloc (.cells #[.int .i64 (j.splits.length : Int)] 3)).alloc (.cells #[.int .i64 ((j.splits.length : Int) + 1)] 3)).drew := ⟨_, rfl⟩
                    have hsz : wS.heap.size = p0 := by rw [hwS, hp0]; simp [World.setCell]
                    have hsz1 : (wS.alloc (.cells #[.int .i64 (j.splits.length : Int)] 3)).heap.size = p1 := by rw [alloc_sizej, hsz, hp0, hp1]
                    have hSD : wS.heap[gs]? = some (.cells ([.slice A1 j.splits.length c1, .int .i64 j.parts, .slice A2 j.map.length c2, .slice A3 j.combine.length c3, .slice A4 j.reduce.length c4, .int .i64 j.chunk, .int .i64 j.window, .int .i64 j.fuel, .slice (some ⟨p0, 0, none⟩) 1 1, .int .i64 wk, .int .i64 tr, .int .i64 tmo] : List Value).toArray 28 (0, 0)) := by rw [hwS]; exact (setCell_other (g := gs) _ _ (by have := HGS.out; show gs ≠ gt; omega)).trans (setCell_blk HBkgs.out _)
                    have hSE : wS.heap[gt]? = some (.cells ([.slice A1 j.splits.length c1, .int .i64 j.parts, .slice A2 j.map.length c2, .slice A3 j.combine.length c3, .slice A4 j.reduce.length c4, .int .i64 j.chunk, .int .i64 j.window, .int .i64 j.fuel, .slice (some ⟨p1, 0, none⟩) 1 1, .int .i64 wk, .int .i64 tr, .int .i64 tmo] : List Value).toArray 28 (0, 0)) := by rw [hwS]; exact setCell_blk ((setCell_other (g := gt) _ _ (by have := HGS.out; show gt ≠ gs; omega)).trans HBkgt.out) _
                    have hcS : Ch wB wS (fun b => b = gs ∨ b = gt) := by rw [hwS]; exact ((Ch.refl wB _).setCell _ _ (.inl rfl)).setCell _ _ (.inr rfl)
                    have hBS := Below.ch HBB.out hcS HBB.out.size (fun b hb => by have := HGS.out; omega)
                    have hB5 : Below W.heap.size W w5 := by
                      rw [hw5]
                      exact below_drew1 ((hBS.alloc hBS.size _).alloc (hBS.alloc hBS.size _).size _)
                    have hk : ∀ {q : Nat} {o : Obj}, wS.heap[q]? = some o → w5.heap[q]? = some o := fun h => by
                      rw [hw5]
                      exact alloc_keeps (alloc_keeps h _) _
                    have hX : w5.heap[p0]? = some (.cells ([.int .i64 (j.splits.length : Int)] : List Value).toArray 3 (0, 0)) := by
                      rw [hw5, ← hsz]
                      exact alloc_keeps (alloc_at wS _) _
                    have hY : w5.heap[p1]? = some (.cells ([.int .i64 ((j.splits.length : Int) + 1)] : List Value).toArray 3 (0, 0)) := by
                      rw [hw5, ← hsz1]
                      exact alloc_at _ _
                    have HMD : Aside0 (Kd.C (Kd.int .i64) w5 (some ⟨p0, 0, none⟩) 1 [(j.splits.length : Int)]) := ⟨C_one hX rfl⟩
                    have HME : Aside0 (Kd.C (Kd.int .i64) w5 (some ⟨p1, 0, none⟩) 1 [(j.splits.length : Int) + 1]) := ⟨C_one hY rfl⟩
                    have HB5 := Aside0.mk hB5
                    have HJ5 : Aside0 (JobC w5 j A1 A2 A3 A4 A5 c1 c2 c3 c4 c5) := ⟨HJ.out.below HB5.out⟩
                    have HD5 := Aside0.mk (hk hSD)
                    have HE5 := Aside0.mk (hk hSE)
                    have HW5 := Aside0.mk hw5
                    have HWS := Aside0.mk hwS
                    have HP0 := Aside0.mk hp0
                    have HP1 := Aside0.mk hp1
                    clear hyes hno hp0 hp1 hwS hw5 hsz hsz1 hSD hSE hcS hBS hB5 hk hX hY hcm hs1 hl6
                    rw [← HP1.out, ← HP0.out, ← HWS.out, ← HW5.out]
                    have q0 : w5.cell? ⟨gs, 0, none⟩ = some (.slice A1 j.splits.length c1) := cell_of_blk HD5.out
                    have q1 : w5.cell? ⟨gs, 1, none⟩ = some (.int .i64 j.parts) := cell_of_blk HD5.out
                    have q2 : w5.cell? ⟨gs, 2, none⟩ = some (.slice A2 j.map.length c2) := cell_of_blk HD5.out
                    have q3 : w5.cell? ⟨gs, 3, none⟩ = some (.slice A3 j.combine.length c3) := cell_of_blk HD5.out
                    have q4 : w5.cell? ⟨gs, 4, none⟩ = some (.slice A4 j.reduce.length c4) := cell_of_blk HD5.out
                    have q5 : w5.cell? ⟨gs, 5, none⟩ = some (.int .i64 j.chunk) := cell_of_blk HD5.out
                    have q6 : w5.cell? ⟨gs, 6, none⟩ = some (.int .i64 j.window) := cell_of_blk HD5.out
                    have q7 : w5.cell? ⟨gs, 7, none⟩ = some (.int .i64 j.fuel) := cell_of_blk HD5.out
                    have q8 : w5.cell? ⟨gs, 8, none⟩ = some (.slice (some ⟨p0, 0, none⟩) 1 1) := cell_of_blk HD5.out
                    have q9 : w5.cell? ⟨gs, 9, none⟩ = some (.int .i64 wk) := cell_of_blk HD5.out
                    have q10 : w5.cell? ⟨gs, 10, none⟩ = some (.int .i64 tr) := cell_of_blk HD5.out
                    have q11 : w5.cell? ⟨gs, 11, none⟩ = some (.int .i64 tmo) := cell_of_blk HD5.out
                    go_wp2_with fail
                    clear q0 q1 q2 q3 q4 q5 q6 q7 q8 q9 q10 q11
                    refine (cfgMay ⟨j.splits, j.parts, j.map, j.combine, j.reduce, j.chunk, j.window, j.fuel, [(j.splits.length : Int)]⟩ wk tr tmo A1 A2 A3 A4 (some ⟨p0, 0, none⟩) c1 c2 c3 c4 1 w5 ⟨HJ5.out.s, HJ5.out.m, HJ5.out.c, HJ5.out.r, HMD.out, HJ5.out.l1, HJ5.out.l2, HJ5.out.l3, HJ5.out.l4, Nat.le_refl _⟩ true ⟨fun _ => HYES.out, fun _ => rfl⟩).mono ?_
                    rintro e w6 ⟨rfl, hb6⟩
                    have HE6 := Aside0.mk ((hb6.block gt (blk_lt' HE5.out)).trans HE5.out)
                    have HJ6 := Aside0.mk (HJ5.out.below hb6)
                    have HME6 := Aside0.mk (Kd.C_below HME.out hb6)
                    have HB6 := Aside0.mk (two_andj _ _ _ HB5.out hb6)
                    have q0 : w6.cell? ⟨gt, 0, none⟩ = some (.slice A1 j.splits.length c1) := cell_of_blk HE6.out
                    have q1 : w6.cell? ⟨gt, 1, none⟩ = some (.int .i64 j.parts) := cell_of_blk HE6.out
                    have q2 : w6.cell? ⟨gt, 2, none⟩ = some (.slice A2 j.map.length c2) := cell_of_blk HE6.out
                    have q3 : w6.cell? ⟨gt, 3, none⟩ = some (.slice A3 j.combine.length c3) := cell_of_blk HE6.out
                    have q4 : w6.cell? ⟨gt, 4, none⟩ = some (.slice A4 j.reduce.length c4) := cell_of_blk HE6.out
                    have q5 : w6.cell? ⟨gt, 5, none⟩ = some (.int .i64 j.chunk) := cell_of_blk HE6.out
                    have q6 : w6.cell? ⟨gt, 6, none⟩ = some (.int .i64 j.window) := cell_of_blk HE6.out
                    have q7 : w6.cell? ⟨gt, 7, none⟩ = some (.int .i64 j.fuel) := cell_of_blk HE6.out
                    have q8 : w6.cell? ⟨gt, 8, none⟩ = some (.slice (some ⟨p1, 0, none⟩) 1 1) := cell_of_blk HE6.out
                    have q9 : w6.cell? ⟨gt, 9, none⟩ = some (.int .i64 wk) := cell_of_blk HE6.out
                    have q10 : w6.cell? ⟨gt, 10, none⟩ = some (.int .i64 tr) := cell_of_blk HE6.out
                    have q11 : w6.cell? ⟨gt, 11, none⟩ = some (.int .i64 tmo) := cell_of_blk HE6.out
                    clear hb6
                    go_wp2_with fail
                    clear q0 q1 q2 q3 q4 q5 q6 q7 q8 q9 q10 q11
                    refine (cfgMay ⟨j.splits, j.parts, j.map, j.combine, j.reduce, j.chunk, j.window, j.fuel, [(j.splits.length : Int) + 1]⟩ wk tr tmo A1 A2 A3 A4 (some ⟨p1, 0, none⟩) c1 c2 c3 c4 1 w6 ⟨HJ6.out.s, HJ6.out.m, HJ6.out.c, HJ6.out.r, HME6.out, HJ6.out.l1, HJ6.out.l2, HJ6.out.l3, HJ6.out.l4, Nat.le_refl _⟩ false ⟨(fun h => absurd h (by simp)), (fun h => absurd h HNO.out)⟩).mono ?_
                    rintro e w7 ⟨rfl, hb7⟩
                    have HB7 := Aside0.mk (two_andj _ _ _ HB6.out hb7)
                    clear hb7
                    go_wp2_with fail
                    refine (awake12 _).mono ?_
                    rintro e w8 ⟨rfl, hb8⟩
                    have HB8 := Aside0.mk (two_andj _ _ _ HB7.out hb8)
                    clear hb8
                    go_wp2_with fail
                    go_ret
                    exact ⟨rfl, HB8.out⟩
                  · clear hw1 hcD hcE hfD hfE hc0 hlD hlE hlg hn1 hn2 hn3 hn4 hn5 hl1 hl2 hl3
                    have hcm := HCM.out
                    have hs1 : 1 ≤ (j.splits.length : Int) := hcm.job.splits.1
                    have hyes : CfgMay ⟨⟨j.splits, j.parts, j.map, j.combine, j.reduce, j.chunk, j.window, j.fuel, [(j.splits.length : Int)]⟩, wk, tr, tmo⟩ := ⟨⟨hcm.job.splits, hcm.job.parts, by show 1 ≤ 4; omega, hcm.job.each, (fun i hi => by
                      have h0 : i = 0 := by have : i < 1 := hi; omega
                      subst h0
                      exact ⟨by show (0 : Int) < (j.splits.length : Int); omega, Int.le_refl _⟩), hcm.job.map, hcm.job.reduce, hcm.job.combine, hcm.job.chunk, hcm.job.window, hcm.job.fuel⟩, hcm.workers, hcm.tries, hcm.timeout⟩
                    have hno : ¬ CfgMay ⟨⟨j.splits, j.parts, j.map, j.combine, j.reduce, j.chunk, j.window, j.fuel, [(j.splits.length : Int) + 1]⟩, wk, tr, tmo⟩ := fun h => by
                      have h1 : (j.splits.length : Int) + 1 ≤ (j.splits.length : Int) := (h.job.marks 0 (by show 0 < 1; omega)).2
                      omega
                    have HYES := Aside0.mk hyes
                    have HNO := Aside0.mk hno
                    obtain ⟨p0, hp0⟩ : ∃ x, x = wB.heap.size := ⟨_, rfl⟩
                    obtain ⟨p1, hp1⟩ : ∃ x, x = wB.heap.size + 1 := ⟨_, rfl⟩
                    obtain ⟨wS, hwS⟩ : ∃ x, x = (wB.setCell ⟨gs, 8, none⟩ (.slice (some ⟨p1, 0, none⟩) 1 1)).setCell ⟨gt, 8, none⟩ (.slice (some ⟨p0, 0, none⟩) 1 1) := ⟨_, rfl⟩
                    obtain ⟨w5, hw5⟩ : ∃ x, x = ((wS.alloc (.cells #[.int .i64 ((j.splits.length : Int) + 1)] 3)).alloc (.cells #[.int .i64 (j.splits.length : Int)] 3)).drew := ⟨_, rfl⟩
                    have hsz : wS.heap.size = p0 := by rw [hwS, hp0]; simp [World.setCell]
                    have hsz1 : (wS.alloc (.cells #[.int .i64 ((j.splits.length : Int) + 1)] 3)).heap.size = p1 := by rw [alloc_sizej, hsz, hp0, hp1]
                    have hSD : wS.heap[gs]? = some (.cells ([.slice A1 j.splits.length c1, .int .i64 j.parts, .slice A2 j.map.length c2, .slice A3 j.combine.length c3, .slice A4 j.reduce.length c4, .int .i64 j.chunk, .int .i64 j.window, .int .i64 j.fuel, .slice (some ⟨p1, 0, none⟩) 1 1, .int .i64 wk, .int .i64 tr, .int .i64 tmo] : List Value).toArray 28 (0, 0)) := by rw [hwS]; exact (setCell_other (g := gs) _ _ (by have := HGS.out; show gs ≠ gt; omega)).trans (setCell_blk HBkgs.out _)
                    have hSE : wS.heap[gt]? = some (.cells ([.slice A1 j.splits.length c1, .int .i64 j.parts, .slice A2 j.map.length c2, .slice A3 j.combine.length c3, .slice A4 j.reduce.length c4, .int .i64 j.chunk, .int .i64 j.window, .int .i64 j.fuel, .slice (some ⟨p0, 0, none⟩) 1 1, .int .i64 wk, .int .i64 tr, .int .i64 tmo] : List Value).toArray 28 (0, 0)) := by rw [hwS]; exact setCell_blk ((setCell_other (g := gt) _ _ (by have := HGS.out; show gt ≠ gs; omega)).trans HBkgt.out) _
                    have hcS : Ch wB wS (fun b => b = gs ∨ b = gt) := by rw [hwS]; exact ((Ch.refl wB _).setCell _ _ (.inl rfl)).setCell _ _ (.inr rfl)
                    have hBS := Below.ch HBB.out hcS HBB.out.size (fun b hb => by have := HGS.out; omega)
                    have hB5 : Below W.heap.size W w5 := by
                      rw [hw5]
                      exact below_drew1 ((hBS.alloc hBS.size _).alloc (hBS.alloc hBS.size _).size _)
                    have hk : ∀ {q : Nat} {o : Obj}, wS.heap[q]? = some o → w5.heap[q]? = some o := fun h => by
                      rw [hw5]
                      exact alloc_keeps (alloc_keeps h _) _
                    have hX : w5.heap[p0]? = some (.cells ([.int .i64 ((j.splits.length : Int) + 1)] : List Value).toArray 3 (0, 0)) := by
                      rw [hw5, ← hsz]
                      exact alloc_keeps (alloc_at wS _) _
                    have hY : w5.heap[p1]? = some (.cells ([.int .i64 (j.splits.length : Int)] : List Value).toArray 3 (0, 0)) := by
                      rw [hw5, ← hsz1]
                      exact alloc_at _ _
                    have HMD : Aside0 (Kd.C (Kd.int .i64) w5 (some ⟨p1, 0, none⟩) 1 [(j.splits.length : Int)]) := ⟨C_one hY rfl⟩
                    have HME : Aside0 (Kd.C (Kd.int .i64) w5 (some ⟨p0, 0, none⟩) 1 [(j.splits.length : Int) + 1]) := ⟨C_one hX rfl⟩
                    have HB5 := Aside0.mk hB5
                    have HJ5 : Aside0 (JobC w5 j A1 A2 A3 A4 A5 c1 c2 c3 c4 c5) := ⟨HJ.out.below HB5.out⟩
                    have HD5 := Aside0.mk (hk hSD)
                    have HE5 := Aside0.mk (hk hSE)
                    have HW5 := Aside0.mk hw5
                    have HWS := Aside0.mk hwS
                    have HP0 := Aside0.mk hp0
                    have HP1 := Aside0.mk hp1
                    clear hyes hno hp0 hp1 hwS hw5 hsz hsz1 hSD hSE hcS hBS hB5 hk hX hY hcm hs1 hl6
                    rw [← HP1.out, ← HP0.out, ← HWS.out, ← HW5.out]
                    have q0 : w5.cell? ⟨gs, 0, none⟩ = some (.slice A1 j.splits.length c1) := cell_of_blk HD5.out
                    have q1 : w5.cell? ⟨gs, 1, none⟩ = some (.int .i64 j.parts) := cell_of_blk HD5.out
                    have q2 : w5.cell? ⟨gs, 2, none⟩ = some (.slice A2 j.map.length c2) := cell_of_blk HD5.out
                    have q3 : w5.cell? ⟨gs, 3, none⟩ = some (.slice A3 j.combine.length c3) := cell_of_blk HD5.out
                    have q4 : w5.cell? ⟨gs, 4, none⟩ = some (.slice A4 j.reduce.length c4) := cell_of_blk HD5.out
                    have q5 : w5.cell? ⟨gs, 5, none⟩ = some (.int .i64 j.chunk) := cell_of_blk HD5.out
                    have q6 : w5.cell? ⟨gs, 6, none⟩ = some (.int .i64 j.window) := cell_of_blk HD5.out
                    have q7 : w5.cell? ⟨gs, 7, none⟩ = some (.int .i64 j.fuel) := cell_of_blk HD5.out
                    have q8 : w5.cell? ⟨gs, 8, none⟩ = some (.slice (some ⟨p1, 0, none⟩) 1 1) := cell_of_blk HD5.out
                    have q9 : w5.cell? ⟨gs, 9, none⟩ = some (.int .i64 wk) := cell_of_blk HD5.out
                    have q10 : w5.cell? ⟨gs, 10, none⟩ = some (.int .i64 tr) := cell_of_blk HD5.out
                    have q11 : w5.cell? ⟨gs, 11, none⟩ = some (.int .i64 tmo) := cell_of_blk HD5.out
                    go_wp2_with fail
                    clear q0 q1 q2 q3 q4 q5 q6 q7 q8 q9 q10 q11
                    refine (cfgMay ⟨j.splits, j.parts, j.map, j.combine, j.reduce, j.chunk, j.window, j.fuel, [(j.splits.length : Int)]⟩ wk tr tmo A1 A2 A3 A4 (some ⟨p1, 0, none⟩) c1 c2 c3 c4 1 w5 ⟨HJ5.out.s, HJ5.out.m, HJ5.out.c, HJ5.out.r, HMD.out, HJ5.out.l1, HJ5.out.l2, HJ5.out.l3, HJ5.out.l4, Nat.le_refl _⟩ true ⟨fun _ => HYES.out, fun _ => rfl⟩).mono ?_
                    rintro e w6 ⟨rfl, hb6⟩
                    have HE6 := Aside0.mk ((hb6.block gt (blk_lt' HE5.out)).trans HE5.out)
                    have HJ6 := Aside0.mk (HJ5.out.below hb6)
                    have HME6 := Aside0.mk (Kd.C_below HME.out hb6)
                    have HB6 := Aside0.mk (two_andj _ _ _ HB5.out hb6)
                    have q0 : w6.cell? ⟨gt, 0, none⟩ = some (.slice A1 j.splits.length c1) := cell_of_blk HE6.out
                    have q1 : w6.cell? ⟨gt, 1, none⟩ = some (.int .i64 j.parts) := cell_of_blk HE6.out
                    have q2 : w6.cell? ⟨gt, 2, none⟩ = some (.slice A2 j.map.length c2) := cell_of_blk HE6.out
                    have q3 : w6.cell? ⟨gt, 3, none⟩ = some (.slice A3 j.combine.length c3) := cell_of_blk HE6.out
                    have q4 : w6.cell? ⟨gt, 4, none⟩ = some (.slice A4 j.reduce.length c4) := cell_of_blk HE6.out
                    have q5 : w6.cell? ⟨gt, 5, none⟩ = some (.int .i64 j.chunk) := cell_of_blk HE6.out
                    have q6 : w6.cell? ⟨gt, 6, none⟩ = some (.int .i64 j.window) := cell_of_blk HE6.out
                    have q7 : w6.cell? ⟨gt, 7, none⟩ = some (.int .i64 j.fuel) := cell_of_blk HE6.out
                    have q8 : w6.cell? ⟨gt, 8, none⟩ = some (.slice (some ⟨p0, 0, none⟩) 1 1) := cell_of_blk HE6.out
                    have q9 : w6.cell? ⟨gt, 9, none⟩ = some (.int .i64 wk) := cell_of_blk HE6.out
                    have q10 : w6.cell? ⟨gt, 10, none⟩ = some (.int .i64 tr) := cell_of_blk HE6.out
                    have q11 : w6.cell? ⟨gt, 11, none⟩ = some (.int .i64 tmo) := cell_of_blk HE6.out
                    clear hb6
                    go_wp2_with fail
                    clear q0 q1 q2 q3 q4 q5 q6 q7 q8 q9 q10 q11
                    refine (cfgMay ⟨j.splits, j.parts, j.map, j.combine, j.reduce, j.chunk, j.window, j.fuel, [(j.splits.length : Int) + 1]⟩ wk tr tmo A1 A2 A3 A4 (some ⟨p0, 0, none⟩) c1 c2 c3 c4 1 w6 ⟨HJ6.out.s, HJ6.out.m, HJ6.out.c, HJ6.out.r, HME6.out, HJ6.out.l1, HJ6.out.l2, HJ6.out.l3, HJ6.out.l4, Nat.le_refl _⟩ false ⟨(fun h => absurd h (by simp)), (fun h => absurd h HNO.out)⟩).mono ?_
                    rintro e w7 ⟨rfl, hb7⟩
                    have HB7 := Aside0.mk (two_andj _ _ _ HB6.out hb7)
                    clear hb7
                    go_wp2_with fail
                    refine (awake12 _).mono ?_
                    rintro e w8 ⟨rfl, hb8⟩
                    have HB8 := Aside0.mk (two_andj _ _ _ HB7.out hb8)
                    clear hb8
                    go_wp2_with fail
                    go_ret
                    exact ⟨rfl, HB8.out⟩
                · have e4 : (lw == 4) = false := beq_eq_false_iff_ne.2 k4
                  by_cases k5 : lw = 5
                  · subst k5
                    clear k0 k1 k2 k3 k4
                    have hcm := HCM.out
                    have hyes : CfgMay ⟨j, 4, tr, tmo⟩ := ⟨hcm.job, ⟨by show (1 : Int) ≤ 4; omega, by show (4 : Int) ≤ 4; omega⟩, hcm.tries, hcm.timeout⟩
                    have hno : ¬ CfgMay ⟨j, 5, tr, tmo⟩ := fun h => by have h1 := h.workers; have h2 : (1 : Int) ≤ 5 := h1.1; have h3 : (5 : Int) ≤ 4 := h1.2; omega
                    have HYES := Aside0.mk hyes
                    have HNO := Aside0.mk hno
                    obtain ⟨w5, hw5⟩ : ∃ w5, w5 = (wB.setCell ⟨gs, 9, none⟩ (.int .i64 4)).setCell ⟨gt, 9, none⟩ (.int .i64 5) := ⟨_, rfl⟩
                    have hD5 : w5.heap[gs]? = some (.cells ([.slice A1 j.splits.length c1, .int .i64 j.parts, .slice A2 j.map.length c2, .slice A3 j.combine.length c3, .slice A4 j.reduce.length c4, .int .i64 j.chunk, .int .i64 j.window, .int .i64 j.fuel, .slice A5 j.marks.length c5, .int .i64 4, .int .i64 tr, .int .i64 tmo] : List Value).toArray 28 (0, 0)) := by rw [hw5]; exact (setCell_other (g := gs) _ _ (by have := HGS.out; show gs ≠ gt; omega)).trans (setCell_blk HBkgs.out _)
                    have hE5 : w5.heap[gt]? = some (.cells ([.slice A1 j.splits.length c1, .int .i64 j.parts, .slice A2 j.map.length c2, .slice A3 j.combine.length c3, .slice A4 j.reduce.length c4, .int .i64 j.chunk, .int .i64 j.window, .int .i64 j.fuel, .slice A5 j.marks.length c5, .int .i64 5, .int .i64 tr, .int .i64 tmo] : List Value).toArray 28 (0, 0)) := by rw [hw5]; exact setCell_blk ((setCell_other (g := gt) _ _ (by have := HGS.out; show gt ≠ gs; omega)).trans HBkgt.out) _
                    have hc5 : Ch wB w5 (fun b => b = gs ∨ b = gt) := by rw [hw5]; exact ((Ch.refl wB _).setCell _ _ (.inl rfl)).setCell _ _ (.inr rfl)
                    have HB5 := Aside0.mk (Below.ch HBB.out hc5 HBB.out.size (fun b hb => by have := HGS.out; omega))
                    have HJ5 : Aside0 (JobC w5 j A1 A2 A3 A4 A5 c1 c2 c3 c4 c5) := ⟨HJ.out.below HB5.out⟩
                    have HD5 := Aside0.mk hD5
                    have HE5 := Aside0.mk hE5
                    have HW5 := Aside0.mk hw5
                    have hEs : (wB.setCell ⟨gs, 9, none⟩ (.int .i64 4)).heap[gt]? = some (.cells ([.slice A1 j.splits.length c1, .int .i64 j.parts, .slice A2 j.map.length c2, .slice A3 j.combine.length c3, .slice A4 j.reduce.length c4, .int .i64 j.chunk, .int .i64 j.window, .int .i64 j.fuel, .slice A5 j.marks.length c5, .int .i64 wk, .int .i64 tr, .int .i64 tmo] : List Value).toArray 28 (0, 0)) := (setCell_other (g := gt) _ _ (by have := HGS.out; show gt ≠ gs; omega)).trans HBkgt.out
                    have hcD : wB.cell? ⟨gs, 9, none⟩ = some (.int .i64 wk) := cell_of_blk HBkgs.out
                    have hfD : wB.frozen? ⟨gs, 9, none⟩ = false := frozen_of_blk HBkgs.out
                    have hcE : (wB.setCell ⟨gs, 9, none⟩ (.int .i64 4)).cell? ⟨gt, 9, none⟩ = some (.int .i64 wk) := cell_of_blk hEs
                    have hfE : (wB.setCell ⟨gs, 9, none⟩ (.int .i64 4)).frozen? ⟨gt, 9, none⟩ = false := frozen_of_blk hEs
                    have hfE0 : wB.frozen? ⟨gt, 9, none⟩ = false := frozen_of_blk HBkgt.out
                    clear hyes hno hw5 hD5 hE5 hc5 hcm hEs
                    go_upto_region 20 with (fail)
                    clear hcD hfD hcE hfE hfE0
                    rw [← HW5.out]
                    have q0 : w5.cell? ⟨gs, 0, none⟩ = some (.slice A1 j.splits.length c1) := cell_of_blk HD5.out
                    have q1 : w5.cell? ⟨gs, 1, none⟩ = some (.int .i64 j.parts) := cell_of_blk HD5.out
                    have q2 : w5.cell? ⟨gs, 2, none⟩ = some (.slice A2 j.map.length c2) := cell_of_blk HD5.out
                    have q3 : w5.cell? ⟨gs, 3, none⟩ = some (.slice A3 j.combine.length c3) := cell_of_blk HD5.out
                    have q4 : w5.cell? ⟨gs, 4, none⟩ = some (.slice A4 j.reduce.length c4) := cell_of_blk HD5.out
                    have q5 : w5.cell? ⟨gs, 5, none⟩ = some (.int .i64 j.chunk) := cell_of_blk HD5.out
                    have q6 : w5.cell? ⟨gs, 6, none⟩ = some (.int .i64 j.window) := cell_of_blk HD5.out
                    have q7 : w5.cell? ⟨gs, 7, none⟩ = some (.int .i64 j.fuel) := cell_of_blk HD5.out
                    have q8 : w5.cell? ⟨gs, 8, none⟩ = some (.slice A5 j.marks.length c5) := cell_of_blk HD5.out
                    have q9 : w5.cell? ⟨gs, 9, none⟩ = some (.int .i64 4) := cell_of_blk HD5.out
                    have q10 : w5.cell? ⟨gs, 10, none⟩ = some (.int .i64 tr) := cell_of_blk HD5.out
                    have q11 : w5.cell? ⟨gs, 11, none⟩ = some (.int .i64 tmo) := cell_of_blk HD5.out
                    go_wp2_with fail
                    clear q0 q1 q2 q3 q4 q5 q6 q7 q8 q9 q10 q11
                    refine (cfgMay j 4 tr tmo A1 A2 A3 A4 A5 c1 c2 c3 c4 c5 w5 ⟨HJ5.out.s, HJ5.out.m, HJ5.out.c, HJ5.out.r, HJ5.out.k, HJ5.out.l1, HJ5.out.l2, HJ5.out.l3, HJ5.out.l4, HJ5.out.l5⟩ true ⟨fun _ => HYES.out, fun _ => rfl⟩).mono ?_
                    rintro e w6 ⟨rfl, hb6⟩
                    have HE6 := Aside0.mk ((hb6.block gt (blk_lt' HE5.out)).trans HE5.out)
                    have HJ6 := Aside0.mk (HJ5.out.below hb6)
                    have HB6 := Aside0.mk (two_andj _ _ _ HB5.out hb6)
                    have q0 : w6.cell? ⟨gt, 0, none⟩ = some (.slice A1 j.splits.length c1) := cell_of_blk HE6.out
                    have q1 : w6.cell? ⟨gt, 1, none⟩ = some (.int .i64 j.parts) := cell_of_blk HE6.out
                    have q2 : w6.cell? ⟨gt, 2, none⟩ = some (.slice A2 j.map.length c2) := cell_of_blk HE6.out
                    have q3 : w6.cell? ⟨gt, 3, none⟩ = some (.slice A3 j.combine.length c3) := cell_of_blk HE6.out
                    have q4 : w6.cell? ⟨gt, 4, none⟩ = some (.slice A4 j.reduce.length c4) := cell_of_blk HE6.out
                    have q5 : w6.cell? ⟨gt, 5, none⟩ = some (.int .i64 j.chunk) := cell_of_blk HE6.out
                    have q6 : w6.cell? ⟨gt, 6, none⟩ = some (.int .i64 j.window) := cell_of_blk HE6.out
                    have q7 : w6.cell? ⟨gt, 7, none⟩ = some (.int .i64 j.fuel) := cell_of_blk HE6.out
                    have q8 : w6.cell? ⟨gt, 8, none⟩ = some (.slice A5 j.marks.length c5) := cell_of_blk HE6.out
                    have q9 : w6.cell? ⟨gt, 9, none⟩ = some (.int .i64 5) := cell_of_blk HE6.out
                    have q10 : w6.cell? ⟨gt, 10, none⟩ = some (.int .i64 tr) := cell_of_blk HE6.out
                    have q11 : w6.cell? ⟨gt, 11, none⟩ = some (.int .i64 tmo) := cell_of_blk HE6.out
                    clear hb6
                    go_wp2_with fail
                    clear q0 q1 q2 q3 q4 q5 q6 q7 q8 q9 q10 q11
                    refine (cfgMay j 5 tr tmo A1 A2 A3 A4 A5 c1 c2 c3 c4 c5 w6 ⟨HJ6.out.s, HJ6.out.m, HJ6.out.c, HJ6.out.r, HJ6.out.k, HJ6.out.l1, HJ6.out.l2, HJ6.out.l3, HJ6.out.l4, HJ6.out.l5⟩ false ⟨(fun h => absurd h (by simp)), (fun h => absurd h HNO.out)⟩).mono ?_
                    rintro e w7 ⟨rfl, hb7⟩
                    have HB7 := Aside0.mk (two_andj _ _ _ HB6.out hb7)
                    clear hb7
                    go_wp2_with fail
                    refine (awake12 _).mono ?_
                    rintro e w8 ⟨rfl, hb8⟩
                    have HB8 := Aside0.mk (two_andj _ _ _ HB7.out hb8)
                    clear hb8
                    go_wp2_with fail
                    go_ret
                    exact ⟨rfl, HB8.out⟩
                  · have e5 : (lw == 5) = false := beq_eq_false_iff_ne.2 k5
                    by_cases k6 : lw = 6
                    · subst k6
                      clear k0 k1 k2 k3 k4 k5
                      have hcm := HCM.out
                      have hyes : CfgMay ⟨j, wk, 3, tmo⟩ := ⟨hcm.job, hcm.workers, ⟨by show (1 : Int) ≤ 3; omega, by show (3 : Int) ≤ 3; omega⟩, hcm.timeout⟩
                      have hno : ¬ CfgMay ⟨j, wk, 0, tmo⟩ := fun h => by have h1 := h.tries; have h2 : (1 : Int) ≤ 0 := h1.1; have h3 : (0 : Int) ≤ 3 := h1.2; omega
                      have HYES := Aside0.mk hyes
                      have HNO := Aside0.mk hno
                      obtain ⟨w5, hw5⟩ : ∃ w5, w5 = (wB.setCell ⟨gs, 10, none⟩ (.int .i64 3)).setCell ⟨gt, 10, none⟩ (.int .i64 0) := ⟨_, rfl⟩
                      have hD5 : w5.heap[gs]? = some (.cells ([.slice A1 j.splits.length c1, .int .i64 j.parts, .slice A2 j.map.length c2, .slice A3 j.combine.length c3, .slice A4 j.reduce.length c4, .int .i64 j.chunk, .int .i64 j.window, .int .i64 j.fuel, .slice A5 j.marks.length c5, .int .i64 wk, .int .i64 3, .int .i64 tmo] : List Value).toArray 28 (0, 0)) := by rw [hw5]; exact (setCell_other (g := gs) _ _ (by have := HGS.out; show gs ≠ gt; omega)).trans (setCell_blk HBkgs.out _)
                      have hE5 : w5.heap[gt]? = some (.cells ([.slice A1 j.splits.length c1, .int .i64 j.parts, .slice A2 j.map.length c2, .slice A3 j.combine.length c3, .slice A4 j.reduce.length c4, .int .i64 j.chunk, .int .i64 j.window, .int .i64 j.fuel, .slice A5 j.marks.length c5, .int .i64 wk, .int .i64 0, .int .i64 tmo] : List Value).toArray 28 (0, 0)) := by rw [hw5]; exact setCell_blk ((setCell_other (g := gt) _ _ (by have := HGS.out; show gt ≠ gs; omega)).trans HBkgt.out) _
                      have hc5 : Ch wB w5 (fun b => b = gs ∨ b = gt) := by rw [hw5]; exact ((Ch.refl wB _).setCell _ _ (.inl rfl)).setCell _ _ (.inr rfl)
                      have HB5 := Aside0.mk (Below.ch HBB.out hc5 HBB.out.size (fun b hb => by have := HGS.out; omega))
                      have HJ5 : Aside0 (JobC w5 j A1 A2 A3 A4 A5 c1 c2 c3 c4 c5) := ⟨HJ.out.below HB5.out⟩
                      have HD5 := Aside0.mk hD5
                      have HE5 := Aside0.mk hE5
                      have HW5 := Aside0.mk hw5
                      have hEs : (wB.setCell ⟨gs, 10, none⟩ (.int .i64 3)).heap[gt]? = some (.cells ([.slice A1 j.splits.length c1, .int .i64 j.parts, .slice A2 j.map.length c2, .slice A3 j.combine.length c3, .slice A4 j.reduce.length c4, .int .i64 j.chunk, .int .i64 j.window, .int .i64 j.fuel, .slice A5 j.marks.length c5, .int .i64 wk, .int .i64 tr, .int .i64 tmo] : List Value).toArray 28 (0, 0)) := (setCell_other (g := gt) _ _ (by have := HGS.out; show gt ≠ gs; omega)).trans HBkgt.out
                      have hcD : wB.cell? ⟨gs, 10, none⟩ = some (.int .i64 tr) := cell_of_blk HBkgs.out
                      have hfD : wB.frozen? ⟨gs, 10, none⟩ = false := frozen_of_blk HBkgs.out
                      have hcE : (wB.setCell ⟨gs, 10, none⟩ (.int .i64 3)).cell? ⟨gt, 10, none⟩ = some (.int .i64 tr) := cell_of_blk hEs
                      have hfE : (wB.setCell ⟨gs, 10, none⟩ (.int .i64 3)).frozen? ⟨gt, 10, none⟩ = false := frozen_of_blk hEs
                      have hfE0 : wB.frozen? ⟨gt, 10, none⟩ = false := frozen_of_blk HBkgt.out
                      clear hyes hno hw5 hD5 hE5 hc5 hcm hEs
                      go_upto_region 20 with (fail)
                      clear hcD hfD hcE hfE hfE0
                      rw [← HW5.out]
                      have q0 : w5.cell? ⟨gs, 0, none⟩ = some (.slice A1 j.splits.length c1) := cell_of_blk HD5.out
                      have q1 : w5.cell? ⟨gs, 1, none⟩ = some (.int .i64 j.parts) := cell_of_blk HD5.out
                      have q2 : w5.cell? ⟨gs, 2, none⟩ = some (.slice A2 j.map.length c2) := cell_of_blk HD5.out
                      have q3 : w5.cell? ⟨gs, 3, none⟩ = some (.slice A3 j.combine.length c3) := cell_of_blk HD5.out
                      have q4 : w5.cell? ⟨gs, 4, none⟩ = some (.slice A4 j.reduce.length c4) := cell_of_blk HD5.out
                      have q5 : w5.cell? ⟨gs, 5, none⟩ = some (.int .i64 j.chunk) := cell_of_blk HD5.out
                      have q6 : w5.cell? ⟨gs, 6, none⟩ = some (.int .i64 j.window) := cell_of_blk HD5.out
                      have q7 : w5.cell? ⟨gs, 7, none⟩ = some (.int .i64 j.fuel) := cell_of_blk HD5.out
                      have q8 : w5.cell? ⟨gs, 8, none⟩ = some (.slice A5 j.marks.length c5) := cell_of_blk HD5.out
                      have q9 : w5.cell? ⟨gs, 9, none⟩ = some (.int .i64 wk) := cell_of_blk HD5.out
                      have q10 : w5.cell? ⟨gs, 10, none⟩ = some (.int .i64 3) := cell_of_blk HD5.out
                      have q11 : w5.cell? ⟨gs, 11, none⟩ = some (.int .i64 tmo) := cell_of_blk HD5.out
                      go_wp2_with fail
                      clear q0 q1 q2 q3 q4 q5 q6 q7 q8 q9 q10 q11
                      refine (cfgMay j wk 3 tmo A1 A2 A3 A4 A5 c1 c2 c3 c4 c5 w5 ⟨HJ5.out.s, HJ5.out.m, HJ5.out.c, HJ5.out.r, HJ5.out.k, HJ5.out.l1, HJ5.out.l2, HJ5.out.l3, HJ5.out.l4, HJ5.out.l5⟩ true ⟨fun _ => HYES.out, fun _ => rfl⟩).mono ?_
                      rintro e w6 ⟨rfl, hb6⟩
                      have HE6 := Aside0.mk ((hb6.block gt (blk_lt' HE5.out)).trans HE5.out)
                      have HJ6 := Aside0.mk (HJ5.out.below hb6)
                      have HB6 := Aside0.mk (two_andj _ _ _ HB5.out hb6)
                      have q0 : w6.cell? ⟨gt, 0, none⟩ = some (.slice A1 j.splits.length c1) := cell_of_blk HE6.out
                      have q1 : w6.cell? ⟨gt, 1, none⟩ = some (.int .i64 j.parts) := cell_of_blk HE6.out
                      have q2 : w6.cell? ⟨gt, 2, none⟩ = some (.slice A2 j.map.length c2) := cell_of_blk HE6.out
                      have q3 : w6.cell? ⟨gt, 3, none⟩ = some (.slice A3 j.combine.length c3) := cell_of_blk HE6.out
                      have q4 : w6.cell? ⟨gt, 4, none⟩ = some (.slice A4 j.reduce.length c4) := cell_of_blk HE6.out
                      have q5 : w6.cell? ⟨gt, 5, none⟩ = some (.int .i64 j.chunk) := cell_of_blk HE6.out
                      have q6 : w6.cell? ⟨gt, 6, none⟩ = some (.int .i64 j.window) := cell_of_blk HE6.out
                      have q7 : w6.cell? ⟨gt, 7, none⟩ = some (.int .i64 j.fuel) := cell_of_blk HE6.out
                      have q8 : w6.cell? ⟨gt, 8, none⟩ = some (.slice A5 j.marks.length c5) := cell_of_blk HE6.out
                      have q9 : w6.cell? ⟨gt, 9, none⟩ = some (.int .i64 wk) := cell_of_blk HE6.out
                      have q10 : w6.cell? ⟨gt, 10, none⟩ = some (.int .i64 0) := cell_of_blk HE6.out
                      have q11 : w6.cell? ⟨gt, 11, none⟩ = some (.int .i64 tmo) := cell_of_blk HE6.out
                      clear hb6
                      go_wp2_with fail
                      clear q0 q1 q2 q3 q4 q5 q6 q7 q8 q9 q10 q11
                      refine (cfgMay j wk 0 tmo A1 A2 A3 A4 A5 c1 c2 c3 c4 c5 w6 ⟨HJ6.out.s, HJ6.out.m, HJ6.out.c, HJ6.out.r, HJ6.out.k, HJ6.out.l1, HJ6.out.l2, HJ6.out.l3, HJ6.out.l4, HJ6.out.l5⟩ false ⟨(fun h => absurd h (by simp)), (fun h => absurd h HNO.out)⟩).mono ?_
                      rintro e w7 ⟨rfl, hb7⟩
                      have HB7 := Aside0.mk (two_andj _ _ _ HB6.out hb7)
                      clear hb7
                      go_wp2_with fail
                      refine (awake12 _).mono ?_
                      rintro e w8 ⟨rfl, hb8⟩
                      have HB8 := Aside0.mk (two_andj _ _ _ HB7.out hb8)
                      clear hb8
                      go_wp2_with fail
                      go_ret
                      exact ⟨rfl, HB8.out⟩
                    · have e6 : (lw == 6) = false := beq_eq_false_iff_ne.2 k6
                      obtain rfl : lw = 7 := by omega
                      clear k0 e0 k1 e1 k2 e2 k3 e3 k4 e4 k5 e5 k6 e6
                      have hcm := HCM.out
                      have hyes : CfgMay ⟨j, wk, tr, 50⟩ := ⟨hcm.job, hcm.workers, hcm.tries, ⟨by show (1 : Int) ≤ 50; omega, by show (50 : Int) ≤ 50; omega⟩⟩
                      have hno : ¬ CfgMay ⟨j, wk, tr, 51⟩ := fun h => by have h1 := h.timeout; have h2 : (1 : Int) ≤ 51 := h1.1; have h3 : (51 : Int) ≤ 50 := h1.2; omega
                      have HYES := Aside0.mk hyes
                      have HNO := Aside0.mk hno
                      obtain ⟨w5, hw5⟩ : ∃ w5, w5 = (wB.setCell ⟨gs, 11, none⟩ (.int .i64 50)).setCell ⟨gt, 11, none⟩ (.int .i64 51) := ⟨_, rfl⟩
                      have hD5 : w5.heap[gs]? = some (.cells ([.slice A1 j.splits.length c1, .int .i64 j.parts, .slice A2 j.map.length c2, .slice A3 j.combine.length c3, .slice A4 j.reduce.length c4, .int .i64 j.chunk, .int .i64 j.window, .int .i64 j.fuel, .slice A5 j.marks.length c5, .int .i64 wk, .int .i64 tr, .int .i64 50] : List Value).toArray 28 (0, 0)) := by rw [hw5]; exact (setCell_other (g := gs) _ _ (by have := HGS.out; show gs ≠ gt; omega)).trans (setCell_blk HBkgs.out _)
                      have hE5 : w5.heap[gt]? = some (.cells ([.slice A1 j.splits.length c1, .int .i64 j.parts, .slice A2 j.map.length c2, .slice A3 j.combine.length c3, .slice A4 j.reduce.length c4, .int .i64 j.chunk, .int .i64 j.window, .int .i64 j.fuel, .slice A5 j.marks.length c5, .int .i64 wk, .int .i64 tr, .int .i64 51] : List Value).toArray 28 (0, 0)) := by rw [hw5]; exact setCell_blk ((setCell_other (g := gt) _ _ (by have := HGS.out; show gt ≠ gs; omega)).trans HBkgt.out) _
                      have hc5 : Ch wB w5 (fun b => b = gs ∨ b = gt) := by rw [hw5]; exact ((Ch.refl wB _).setCell _ _ (.inl rfl)).setCell _ _ (.inr rfl)
                      have HB5 := Aside0.mk (Below.ch HBB.out hc5 HBB.out.size (fun b hb => by have := HGS.out; omega))
                      have HJ5 : Aside0 (JobC w5 j A1 A2 A3 A4 A5 c1 c2 c3 c4 c5) := ⟨HJ.out.below HB5.out⟩
                      have HD5 := Aside0.mk hD5
                      have HE5 := Aside0.mk hE5
                      have HW5 := Aside0.mk hw5
                      have hEs : (wB.setCell ⟨gs, 11, none⟩ (.int .i64 50)).heap[gt]? = some (.cells ([.slice A1 j.splits.length c1, .int .i64 j.parts, .slice A2 j.map.length c2, .slice A3 j.combine.length c3, .slice A4 j.reduce.length c4, .int .i64 j.chunk, .int .i64 j.window, .int .i64 j.fuel, .slice A5 j.marks.length c5, .int .i64 wk, .int .i64 tr, .int .i64 tmo] : List Value).toArray 28 (0, 0)) := (setCell_other (g := gt) _ _ (by have := HGS.out; show gt ≠ gs; omega)).trans HBkgt.out
                      have hcD : wB.cell? ⟨gs, 11, none⟩ = some (.int .i64 tmo) := cell_of_blk HBkgs.out
                      have hfD : wB.frozen? ⟨gs, 11, none⟩ = false := frozen_of_blk HBkgs.out
                      have hcE : (wB.setCell ⟨gs, 11, none⟩ (.int .i64 50)).cell? ⟨gt, 11, none⟩ = some (.int .i64 tmo) := cell_of_blk hEs
                      have hfE : (wB.setCell ⟨gs, 11, none⟩ (.int .i64 50)).frozen? ⟨gt, 11, none⟩ = false := frozen_of_blk hEs
                      have hfE0 : wB.frozen? ⟨gt, 11, none⟩ = false := frozen_of_blk HBkgt.out
                      clear hyes hno hw5 hD5 hE5 hc5 hcm hEs
                      go_upto_region 20 with (fail)
                      clear hcD hfD hcE hfE hfE0
                      rw [← HW5.out]
                      have q0 : w5.cell? ⟨gs, 0, none⟩ = some (.slice A1 j.splits.length c1) := cell_of_blk HD5.out
                      have q1 : w5.cell? ⟨gs, 1, none⟩ = some (.int .i64 j.parts) := cell_of_blk HD5.out
                      have q2 : w5.cell? ⟨gs, 2, none⟩ = some (.slice A2 j.map.length c2) := cell_of_blk HD5.out
                      have q3 : w5.cell? ⟨gs, 3, none⟩ = some (.slice A3 j.combine.length c3) := cell_of_blk HD5.out
                      have q4 : w5.cell? ⟨gs, 4, none⟩ = some (.slice A4 j.reduce.length c4) := cell_of_blk HD5.out
                      have q5 : w5.cell? ⟨gs, 5, none⟩ = some (.int .i64 j.chunk) := cell_of_blk HD5.out
                      have q6 : w5.cell? ⟨gs, 6, none⟩ = some (.int .i64 j.window) := cell_of_blk HD5.out
                      have q7 : w5.cell? ⟨gs, 7, none⟩ = some (.int .i64 j.fuel) := cell_of_blk HD5.out
                      have q8 : w5.cell? ⟨gs, 8, none⟩ = some (.slice A5 j.marks.length c5) := cell_of_blk HD5.out
                      have q9 : w5.cell? ⟨gs, 9, none⟩ = some (.int .i64 wk) := cell_of_blk HD5.out
                      have q10 : w5.cell? ⟨gs, 10, none⟩ = some (.int .i64 tr) := cell_of_blk HD5.out
                      have q11 : w5.cell? ⟨gs, 11, none⟩ = some (.int .i64 50) := cell_of_blk HD5.out
                      go_wp2_with fail
                      clear q0 q1 q2 q3 q4 q5 q6 q7 q8 q9 q10 q11
                      refine (cfgMay j wk tr 50 A1 A2 A3 A4 A5 c1 c2 c3 c4 c5 w5 ⟨HJ5.out.s, HJ5.out.m, HJ5.out.c, HJ5.out.r, HJ5.out.k, HJ5.out.l1, HJ5.out.l2, HJ5.out.l3, HJ5.out.l4, HJ5.out.l5⟩ true ⟨fun _ => HYES.out, fun _ => rfl⟩).mono ?_
                      rintro e w6 ⟨rfl, hb6⟩
                      have HE6 := Aside0.mk ((hb6.block gt (blk_lt' HE5.out)).trans HE5.out)
                      have HJ6 := Aside0.mk (HJ5.out.below hb6)
                      have HB6 := Aside0.mk (two_andj _ _ _ HB5.out hb6)
                      have q0 : w6.cell? ⟨gt, 0, none⟩ = some (.slice A1 j.splits.length c1) := cell_of_blk HE6.out
                      have q1 : w6.cell? ⟨gt, 1, none⟩ = some (.int .i64 j.parts) := cell_of_blk HE6.out
                      have q2 : w6.cell? ⟨gt, 2, none⟩ = some (.slice A2 j.map.length c2) := cell_of_blk HE6.out
                      have q3 : w6.cell? ⟨gt, 3, none⟩ = some (.slice A3 j.combine.length c3) := cell_of_blk HE6.out
                      have q4 : w6.cell? ⟨gt, 4, none⟩ = some (.slice A4 j.reduce.length c4) := cell_of_blk HE6.out
                      have q5 : w6.cell? ⟨gt, 5, none⟩ = some (.int .i64 j.chunk) := cell_of_blk HE6.out
                      have q6 : w6.cell? ⟨gt, 6, none⟩ = some (.int .i64 j.window) := cell_of_blk HE6.out
                      have q7 : w6.cell? ⟨gt, 7, none⟩ = some (.int .i64 j.fuel) := cell_of_blk HE6.out
                      have q8 : w6.cell? ⟨gt, 8, none⟩ = some (.slice A5 j.marks.length c5) := cell_of_blk HE6.out
                      have q9 : w6.cell? ⟨gt, 9, none⟩ = some (.int .i64 wk) := cell_of_blk HE6.out
                      have q10 : w6.cell? ⟨gt, 10, none⟩ = some (.int .i64 tr) := cell_of_blk HE6.out
                      have q11 : w6.cell? ⟨gt, 11, none⟩ = some (.int .i64 51) := cell_of_blk HE6.out
                      clear hb6
                      go_wp2_with fail
                      clear q0 q1 q2 q3 q4 q5 q6 q7 q8 q9 q10 q11
                      refine (cfgMay j wk tr 51 A1 A2 A3 A4 A5 c1 c2 c3 c4 c5 w6 ⟨HJ6.out.s, HJ6.out.m, HJ6.out.c, HJ6.out.r, HJ6.out.k, HJ6.out.l1, HJ6.out.l2, HJ6.out.l3, HJ6.out.l4, HJ6.out.l5⟩ false ⟨(fun h => absurd h (by simp)), (fun h => absurd h HNO.out)⟩).mono ?_
                      rintro e w7 ⟨rfl, hb7⟩
                      have HB7 := Aside0.mk (two_andj _ _ _ HB6.out hb7)
                      clear hb7
                      go_wp2_with fail
                      refine (awake12 _).mono ?_
                      rintro e w8 ⟨rfl, hb8⟩
                      have HB8 := Aside0.mk (two_andj _ _ _ HB7.out hb8)
                      clear hb8
                      go_wp2_with fail
                      go_ret
                      exact ⟨rfl, HB8.out⟩
      · clear hgl0 hgl1 hgl2 hgl3 q0 q1 q2 q3 q4 q5 q6 q7 q8 q9 q10 q11
        rw [← HPT.out, ← HPS.out, ← HWA2.out, ← HWB2.out]
        go_wp2_with fail
        refine (low which 8 _ (by omega) (by omega)).mono ?_
        rintro e wB ⟨rfl, rfl⟩
        rw [← HLW.out]
        clear HLW HWB2 HWA2 HPS HPT
        by_cases k0 : lw = 0
        · subst k0
          have hcm := HCM.out
          have hyes : CfgMay ⟨⟨j.splits, 4, j.map, j.combine, j.reduce, j.chunk, j.window, j.fuel, j.marks⟩, wk, tr, tmo⟩ := ⟨⟨hcm.job.splits, ⟨by show (1 : Int) ≤ 4; omega, by show (4 : Int) ≤ 4; omega⟩, hcm.job.marks4, hcm.job.each, hcm.job.marks, hcm.job.map, hcm.job.reduce, hcm.job.combine, hcm.job.chunk, hcm.job.window, hcm.job.fuel⟩, hcm.workers, hcm.tries, hcm.timeout⟩
          have hno : ¬ CfgMay ⟨⟨j.splits, 5, j.map, j.combine, j.reduce, j.chunk, j.window, j.fuel, j.marks⟩, wk, tr, tmo⟩ := fun h => by have h1 := h.job.parts; have h2 : (1 : Int) ≤ 5 := h1.1; have h3 : (5 : Int) ≤ 4 := h1.2; omega
          have HYES := Aside0.mk hyes
          have HNO := Aside0.mk hno
          obtain ⟨w5, hw5⟩ : ∃ w5, w5 = (wB.setCell ⟨gt, 1, none⟩ (.int .i64 4)).setCell ⟨gs, 1, none⟩ (.int .i64 5) := ⟨_, rfl⟩
          have hD5 : w5.heap[gt]? = some (.cells ([.slice A1 j.splits.length c1, .int .i64 4, .slice A2 j.map.length c2, .slice A3 j.combine.length c3, .slice A4 j.reduce.length c4, .int .i64 j.chunk, .int .i64 j.window, .int .i64 j.fuel, .slice A5 j.marks.length c5, .int .i64 wk, .int .i64 tr, .int .i64 tmo] : List Value).toArray 28 (0, 0)) := by rw [hw5]; exact (setCell_other (g := gt) _ _ (by have := HGS.out; show gt ≠ gs; omega)).trans (setCell_blk HBkgt.out _)
          have hE5 : w5.heap[gs]? = some (.cells ([.slice A1 j.splits.length c1, .int .i64 5, .slice A2 j.map.length c2, .slice A3 j.combine.length c3, .slice A4 j.reduce.length c4, .int .i64 j.chunk, .int .i64 j.window, .int .i64 j.fuel, .slice A5 j.marks.length c5, .int .i64 wk, .int .i64 tr, .int .i64 tmo] : List Value).toArray 28 (0, 0)) := by rw [hw5]; exact setCell_blk ((setCell_other (g := gs) _ _ (by have := HGS.out; show gs ≠ gt; omega)).trans HBkgs.out) _
          have hc5 : Ch wB w5 (fun b => b = gt ∨ b = gs) := by rw [hw5]; exact ((Ch.refl wB _).setCell _ _ (.inl rfl)).setCell _ _ (.inr rfl)
          have HB5 := Aside0.mk (Below.ch HBB.out hc5 HBB.out.size (fun b hb => by have := HGS.out; omega))
          have HJ5 : Aside0 (JobC w5 j A1 A2 A3 A4 A5 c1 c2 c3 c4 c5) := ⟨HJ.out.below HB5.out⟩
          have HD5 := Aside0.mk hD5
          have HE5 := Aside0.mk hE5
          have HW5 := Aside0.mk hw5
          have hEs : (wB.setCell ⟨gt, 1, none⟩ (.int .i64 4)).heap[gs]? = some (.cells ([.slice A1 j.splits.length c1, .int .i64 j.parts, .slice A2 j.map.length c2, .slice A3 j.combine.length c3, .slice A4 j.reduce.length c4, .int .i64 j.chunk, .int .i64 j.window, .int .i64 j.fuel, .slice A5 j.marks.length c5, .int .i64 wk, .int .i64 tr, .int .i64 tmo] : List Value).toArray 28 (0, 0)) := (setCell_other (g := gs) _ _ (by have := HGS.out; show gs ≠ gt; omega)).trans HBkgs.out
          have hcD : wB.cell? ⟨gt, 1, none⟩ = some (.int .i64 j.parts) := cell_of_blk HBkgt.out
          have hfD : wB.frozen? ⟨gt, 1, none⟩ = false := frozen_of_blk HBkgt.out
          have hcE : (wB.setCell ⟨gt, 1, none⟩ (.int .i64 4)).cell? ⟨gs, 1, none⟩ = some (.int .i64 j.parts) := cell_of_blk hEs
          have hfE : (wB.setCell ⟨gt, 1, none⟩ (.int .i64 4)).frozen? ⟨gs, 1, none⟩ = false := frozen_of_blk hEs
          have hfE0 : wB.frozen? ⟨gs, 1, none⟩ = false := frozen_of_blk HBkgs.out
          clear hyes hno hw5 hD5 hE5 hc5 hcm hEs
          go_upto_region 20 with (fail)
          clear hcD hfD hcE hfE hfE0
          rw [← HW5.out]
          have q0 : w5.cell? ⟨gt, 0, none⟩ = some (.slice A1 j.splits.length c1) := cell_of_blk HD5.out
          have q1 : w5.cell? ⟨gt, 1, none⟩ = some (.int .i64 4) := cell_of_blk HD5.out
          have q2 : w5.cell? ⟨gt, 2, none⟩ = some (.slice A2 j.map.length c2) := cell_of_blk HD5.out
          have q3 : w5.cell? ⟨gt, 3, none⟩ = some (.slice A3 j.combine.length c3) := cell_of_blk HD5.out
          have q4 : w5.cell? ⟨gt, 4, none⟩ = some (.slice A4 j.reduce.length c4) := cell_of_blk HD5.out
          have q5 : w5.cell? ⟨gt, 5, none⟩ = some (.int .i64 j.chunk) := cell_of_blk HD5.out
          have q6 : w5.cell? ⟨gt, 6, none⟩ = some (.int .i64 j.window) := cell_of_blk HD5.out
          have q7 : w5.cell? ⟨gt, 7, none⟩ = some (.int .i64 j.fuel) := cell_of_blk HD5.out
          have q8 : w5.cell? ⟨gt, 8, none⟩ = some (.slice A5 j.marks.length c5) := cell_of_blk HD5.out
          have q9 : w5.cell? ⟨gt, 9, none⟩ = some (.int .i64 wk) := cell_of_blk HD5.out
          have q10 : w5.cell? ⟨gt, 10, none⟩ = some (.int .i64 tr) := cell_of_blk HD5.out
          have q11 : w5.cell? ⟨gt, 11, none⟩ = some (.int .i64 tmo) := cell_of_blk HD5.out
          go_wp2_with fail
          clear q0 q1 q2 q3 q4 q5 q6 q7 q8 q9 q10 q11
          refine (cfgMay ⟨j.splits, 4, j.map, j.combine, j.reduce, j.chunk, j.window, j.fuel, j.marks⟩ wk tr tmo A1 A2 A3 A4 A5 c1 c2 c3 c4 c5 w5 ⟨HJ5.out.s, HJ5.out.m, HJ5.out.c, HJ5.out.r, HJ5.out.k, HJ5.out.l1, HJ5.out.l2, HJ5.out.l3, HJ5.out.l4, HJ5.out.l5⟩ true ⟨fun _ => HYES.out, fun _ => rfl⟩).mono ?_
          rintro e w6 ⟨rfl, hb6⟩
          have HE6 := Aside0.mk ((hb6.block gs (blk_lt' HE5.out)).trans HE5.out)
          have HJ6 := Aside0.mk (HJ5.out.below hb6)
          have HB6 := Aside0.mk (two_andj _ _ _ HB5.out hb6)
          have q0 : w6.cell? ⟨gs, 0, none⟩ = some (.slice A1 j.splits.length c1) := cell_of_blk HE6.out
          have q1 : w6.cell? ⟨gs, 1, none⟩ = some (.int .i64 5) := cell_of_blk HE6.out
          have q2 : w6.cell? ⟨gs, 2, none⟩ = some (.slice A2 j.map.length c2) := cell_of_blk HE6.out
          have q3 : w6.cell? ⟨gs, 3, none⟩ = some (.slice A3 j.combine.length c3) := cell_of_blk HE6.out
          have q4 : w6.cell? ⟨gs, 4, none⟩ = some (.slice A4 j.reduce.length c4) := cell_of_blk HE6.out
          have q5 : w6.cell? ⟨gs, 5, none⟩ = some (.int .i64 j.chunk) := cell_of_blk HE6.out
          have q6 : w6.cell? ⟨gs, 6, none⟩ = some (.int .i64 j.window) := cell_of_blk HE6.out
          have q7 : w6.cell? ⟨gs, 7, none⟩ = some (.int .i64 j.fuel) := cell_of_blk HE6.out
          have q8 : w6.cell? ⟨gs, 8, none⟩ = some (.slice A5 j.marks.length c5) := cell_of_blk HE6.out
          have q9 : w6.cell? ⟨gs, 9, none⟩ = some (.int .i64 wk) := cell_of_blk HE6.out
          have q10 : w6.cell? ⟨gs, 10, none⟩ = some (.int .i64 tr) := cell_of_blk HE6.out
          have q11 : w6.cell? ⟨gs, 11, none⟩ = some (.int .i64 tmo) := cell_of_blk HE6.out
          clear hb6
          go_wp2_with fail
          clear q0 q1 q2 q3 q4 q5 q6 q7 q8 q9 q10 q11
          refine (cfgMay ⟨j.splits, 5, j.map, j.combine, j.reduce, j.chunk, j.window, j.fuel, j.marks⟩ wk tr tmo A1 A2 A3 A4 A5 c1 c2 c3 c4 c5 w6 ⟨HJ6.out.s, HJ6.out.m, HJ6.out.c, HJ6.out.r, HJ6.out.k, HJ6.out.l1, HJ6.out.l2, HJ6.out.l3, HJ6.out.l4, HJ6.out.l5⟩ false ⟨(fun h => absurd h (by simp)), (fun h => absurd h HNO.out)⟩).mono ?_
          rintro e w7 ⟨rfl, hb7⟩
          have HB7 := Aside0.mk (two_andj _ _ _ HB6.out hb7)
          clear hb7
          go_wp2_with fail
          refine (awake12 _).mono ?_
          rintro e w8 ⟨rfl, hb8⟩
          have HB8 := Aside0.mk (two_andj _ _ _ HB7.out hb8)
          clear hb8
          go_wp2_with fail
          go_ret
          exact ⟨rfl, HB8.out⟩
        · have e0 : (lw == 0) = false := beq_eq_false_iff_ne.2 k0
          by_cases k1 : lw = 1
          · subst k1
            clear k0
            have hcm := HCM.out
            have hyes : CfgMay ⟨⟨j.splits, j.parts, j.map, j.combine, j.reduce, 7, j.window, j.fuel, j.marks⟩, wk, tr, tmo⟩ := ⟨⟨hcm.job.splits, hcm.job.parts, hcm.job.marks4, hcm.job.each, hcm.job.marks, hcm.job.map, hcm.job.reduce, hcm.job.combine, ⟨by show (1 : Int) ≤ 7; omega, by show (7 : Int) ≤ 7; omega⟩, hcm.job.window, hcm.job.fuel⟩, hcm.workers, hcm.tries, hcm.timeout⟩
            have hno : ¬ CfgMay ⟨⟨j.splits, j.parts, j.map, j.combine, j.reduce, 8, j.window, j.fuel, j.marks⟩, wk, tr, tmo⟩ := fun h => by have h1 := h.job.chunk; have h2 : (1 : Int) ≤ 8 := h1.1; have h3 : (8 : Int) ≤ 7 := h1.2; omega
            have HYES := Aside0.mk hyes
            have HNO := Aside0.mk hno
            obtain ⟨w5, hw5⟩ : ∃ w5, w5 = (wB.setCell ⟨gt, 5, none⟩ (.int .i64 7)).setCell ⟨gs, 5, none⟩ (.int .i64 8) := ⟨_, rfl⟩
            have hD5 : w5.heap[gt]? = some (.cells ([.slice A1 j.splits.length c1, .int .i64 j.parts, .slice A2 j.map.length c2, .slice A3 j.combine.length c3, .slice A4 j.reduce.length c4, .int .i64 7, .int .i64 j.window, .int .i64 j.fuel, .slice A5 j.marks.length c5, .int .i64 wk, .int .i64 tr, .int .i64 tmo] : List Value).toArray 28 (0, 0)) := by rw [hw5]; exact (setCell_other (g := gt) _ _ (by have := HGS.out; show gt ≠ gs; omega)).trans (setCell_blk HBkgt.out _)
            have hE5 : w5.heap[gs]? = some (.cells ([.slice A1 j.splits.length c1, .int .i64 j.parts, .slice A2 j.map.length c2, .slice A3 j.combine.length c3, .slice A4 j.reduce.length c4, .int .i64 8, .int .i64 j.window, .int .i64 j.fuel, .slice A5 j.marks.length c5, .int .i64 wk, .int .i64 tr, .int .i64 tmo] : List Value).toArray 28 (0, 0)) := by rw [hw5]; exact setCell_blk ((setCell_other (g := gs) _ _ (by have := HGS.out; show gs ≠ gt; omega)).trans HBkgs.out) _
            have hc5 : Ch wB w5 (fun b => b = gt ∨ b = gs) := by rw [hw5]; exact ((Ch.refl wB _).setCell _ _ (.inl rfl)).setCell _ _ (.inr rfl)
            have HB5 := Aside0.mk (Below.ch HBB.out hc5 HBB.out.size (fun b hb => by have := HGS.out; omega))
            have HJ5 : Aside0 (JobC w5 j A1 A2 A3 A4 A5 c1 c2 c3 c4 c5) := ⟨HJ.out.below HB5.out⟩
            have HD5 := Aside0.mk hD5
            have HE5 := Aside0.mk hE5
            have HW5 := Aside0.mk hw5
            have hEs : (wB.setCell ⟨gt, 5, none⟩ (.int .i64 7)).heap[gs]? = some (.cells ([.slice A1 j.splits.length c1, .int .i64 j.parts, .slice A2 j.map.length c2, .slice A3 j.combine.length c3, .slice A4 j.reduce.length c4, .int .i64 j.chunk, .int .i64 j.window, .int .i64 j.fuel, .slice A5 j.marks.length c5, .int .i64 wk, .int .i64 tr, .int .i64 tmo] : List Value).toArray 28 (0, 0)) := (setCell_other (g := gs) _ _ (by have := HGS.out; show gs ≠ gt; omega)).trans HBkgs.out
            have hcD : wB.cell? ⟨gt, 5, none⟩ = some (.int .i64 j.chunk) := cell_of_blk HBkgt.out
            have hfD : wB.frozen? ⟨gt, 5, none⟩ = false := frozen_of_blk HBkgt.out
            have hcE : (wB.setCell ⟨gt, 5, none⟩ (.int .i64 7)).cell? ⟨gs, 5, none⟩ = some (.int .i64 j.chunk) := cell_of_blk hEs
            have hfE : (wB.setCell ⟨gt, 5, none⟩ (.int .i64 7)).frozen? ⟨gs, 5, none⟩ = false := frozen_of_blk hEs
            have hfE0 : wB.frozen? ⟨gs, 5, none⟩ = false := frozen_of_blk HBkgs.out
            clear hyes hno hw5 hD5 hE5 hc5 hcm hEs
            go_upto_region 20 with (fail)
            clear hcD hfD hcE hfE hfE0
            rw [← HW5.out]
            have q0 : w5.cell? ⟨gt, 0, none⟩ = some (.slice A1 j.splits.length c1) := cell_of_blk HD5.out
            have q1 : w5.cell? ⟨gt, 1, none⟩ = some (.int .i64 j.parts) := cell_of_blk HD5.out
            have q2 : w5.cell? ⟨gt, 2, none⟩ = some (.slice A2 j.map.length c2) := cell_of_blk HD5.out
            have q3 : w5.cell? ⟨gt, 3, none⟩ = some (.slice A3 j.combine.length c3) := cell_of_blk HD5.out
            have q4 : w5.cell? ⟨gt, 4, none⟩ = some (.slice A4 j.reduce.length c4) := cell_of_blk HD5.out
            have q5 : w5.cell? ⟨gt, 5, none⟩ = some (.int .i64 7) := cell_of_blk HD5.out
            have q6 : w5.cell? ⟨gt, 6, none⟩ = some (.int .i64 j.window) := cell_of_blk HD5.out
            have q7 : w5.cell? ⟨gt, 7, none⟩ = some (.int .i64 j.fuel) := cell_of_blk HD5.out
            have q8 : w5.cell? ⟨gt, 8, none⟩ = some (.slice A5 j.marks.length c5) := cell_of_blk HD5.out
            have q9 : w5.cell? ⟨gt, 9, none⟩ = some (.int .i64 wk) := cell_of_blk HD5.out
            have q10 : w5.cell? ⟨gt, 10, none⟩ = some (.int .i64 tr) := cell_of_blk HD5.out
            have q11 : w5.cell? ⟨gt, 11, none⟩ = some (.int .i64 tmo) := cell_of_blk HD5.out
            go_wp2_with fail
            clear q0 q1 q2 q3 q4 q5 q6 q7 q8 q9 q10 q11
            refine (cfgMay ⟨j.splits, j.parts, j.map, j.combine, j.reduce, 7, j.window, j.fuel, j.marks⟩ wk tr tmo A1 A2 A3 A4 A5 c1 c2 c3 c4 c5 w5 ⟨HJ5.out.s, HJ5.out.m, HJ5.out.c, HJ5.out.r, HJ5.out.k, HJ5.out.l1, HJ5.out.l2, HJ5.out.l3, HJ5.out.l4, HJ5.out.l5⟩ true ⟨fun _ => HYES.out, fun _ => rfl⟩).mono ?_
            rintro e w6 ⟨rfl, hb6⟩
            have HE6 := Aside0.mk ((hb6.block gs (blk_lt' HE5.out)).trans HE5.out)
            have HJ6 := Aside0.mk (HJ5.out.below hb6)
            have HB6 := Aside0.mk (two_andj _ _ _ HB5.out hb6)
            have q0 : w6.cell? ⟨gs, 0, none⟩ = some (.slice A1 j.splits.length c1) := cell_of_blk HE6.out
            have q1 : w6.cell? ⟨gs, 1, none⟩ = some (.int .i64 j.parts) := cell_of_blk HE6.out
            have q2 : w6.cell? ⟨gs, 2, none⟩ = some (.slice A2 j.map.length c2) := cell_of_blk HE6.out
            have q3 : w6.cell? ⟨gs, 3, none⟩ = some (.slice A3 j.combine.length c3) := cell_of_blk HE6.out
            have q4 : w6.cell? ⟨gs, 4, none⟩ = some (.slice A4 j.reduce.length c4) := cell_of_blk HE6.out
            have q5 : w6.cell? ⟨gs, 5, none⟩ = some (.int .i64 8) := cell_of_blk HE6.out
            have q6 : w6.cell? ⟨gs, 6, none⟩ = some (.int .i64 j.window) := cell_of_blk HE6.out
            have q7 : w6.cell? ⟨gs, 7, none⟩ = some (.int .i64 j.fuel) := cell_of_blk HE6.out
            have q8 : w6.cell? ⟨gs, 8, none⟩ = some (.slice A5 j.marks.length c5) := cell_of_blk HE6.out
            have q9 : w6.cell? ⟨gs, 9, none⟩ = some (.int .i64 wk) := cell_of_blk HE6.out
            have q10 : w6.cell? ⟨gs, 10, none⟩ = some (.int .i64 tr) := cell_of_blk HE6.out
            have q11 : w6.cell? ⟨gs, 11, none⟩ = some (.int .i64 tmo) := cell_of_blk HE6.out
            clear hb6
            go_wp2_with fail
            clear q0 q1 q2 q3 q4 q5 q6 q7 q8 q9 q10 q11
            refine (cfgMay ⟨j.splits, j.parts, j.map, j.combine, j.reduce, 8, j.window, j.fuel, j.marks⟩ wk tr tmo A1 A2 A3 A4 A5 c1 c2 c3 c4 c5 w6 ⟨HJ6.out.s, HJ6.out.m, HJ6.out.c, HJ6.out.r, HJ6.out.k, HJ6.out.l1, HJ6.out.l2, HJ6.out.l3, HJ6.out.l4, HJ6.out.l5⟩ false ⟨(fun h => absurd h (by simp)), (fun h => absurd h HNO.out)⟩).mono ?_
            rintro e w7 ⟨rfl, hb7⟩
            have HB7 := Aside0.mk (two_andj _ _ _ HB6.out hb7)
            clear hb7
            go_wp2_with fail
            refine (awake12 _).mono ?_
            rintro e w8 ⟨rfl, hb8⟩
            have HB8 := Aside0.mk (two_andj _ _ _ HB7.out hb8)
            clear hb8
            go_wp2_with fail
            go_ret
            exact ⟨rfl, HB8.out⟩
          · have e1 : (lw == 1) = false := beq_eq_false_iff_ne.2 k1
            by_cases k2 : lw = 2
            · subst k2
              clear k0 k1
              have hcm := HCM.out
              have hyes : CfgMay ⟨⟨j.splits, j.parts, j.map, j.combine, j.reduce, j.chunk, 4, j.fuel, j.marks⟩, wk, tr, tmo⟩ := ⟨⟨hcm.job.splits, hcm.job.parts, hcm.job.marks4, hcm.job.each, hcm.job.marks, hcm.job.map, hcm.job.reduce, hcm.job.combine, hcm.job.chunk, ⟨by show (1 : Int) ≤ 4; omega, by show (4 : Int) ≤ 4; omega⟩, hcm.job.fuel⟩, hcm.workers, hcm.tries, hcm.timeout⟩
              have hno : ¬ CfgMay ⟨⟨j.splits, j.parts, j.map, j.combine, j.reduce, j.chunk, 0, j.fuel, j.marks⟩, wk, tr, tmo⟩ := fun h => by have h1 := h.job.window; have h2 : (1 : Int) ≤ 0 := h1.1; have h3 : (0 : Int) ≤ 4 := h1.2; omega
              have HYES := Aside0.mk hyes
              have HNO := Aside0.mk hno
              obtain ⟨w5, hw5⟩ : ∃ w5, w5 = (wB.setCell ⟨gt, 6, none⟩ (.int .i64 4)).setCell ⟨gs, 6, none⟩ (.int .i64 0) := ⟨_, rfl⟩
              have hD5 : w5.heap[gt]? = some (.cells ([.slice A1 j.splits.length c1, .int .i64 j.parts, .slice A2 j.map.length c2, .slice A3 j.combine.length c3, .slice A4 j.reduce.length c4, .int .i64 j.chunk, .int .i64 4, .int .i64 j.fuel, .slice A5 j.marks.length c5, .int .i64 wk, .int .i64 tr, .int .i64 tmo] : List Value).toArray 28 (0, 0)) := by rw [hw5]; exact (setCell_other (g := gt) _ _ (by have := HGS.out; show gt ≠ gs; omega)).trans (setCell_blk HBkgt.out _)
              have hE5 : w5.heap[gs]? = some (.cells ([.slice A1 j.splits.length c1, .int .i64 j.parts, .slice A2 j.map.length c2, .slice A3 j.combine.length c3, .slice A4 j.reduce.length c4, .int .i64 j.chunk, .int .i64 0, .int .i64 j.fuel, .slice A5 j.marks.length c5, .int .i64 wk, .int .i64 tr, .int .i64 tmo] : List Value).toArray 28 (0, 0)) := by rw [hw5]; exact setCell_blk ((setCell_other (g := gs) _ _ (by have := HGS.out; show gs ≠ gt; omega)).trans HBkgs.out) _
              have hc5 : Ch wB w5 (fun b => b = gt ∨ b = gs) := by rw [hw5]; exact ((Ch.refl wB _).setCell _ _ (.inl rfl)).setCell _ _ (.inr rfl)
              have HB5 := Aside0.mk (Below.ch HBB.out hc5 HBB.out.size (fun b hb => by have := HGS.out; omega))
              have HJ5 : Aside0 (JobC w5 j A1 A2 A3 A4 A5 c1 c2 c3 c4 c5) := ⟨HJ.out.below HB5.out⟩
              have HD5 := Aside0.mk hD5
              have HE5 := Aside0.mk hE5
              have HW5 := Aside0.mk hw5
              have hEs : (wB.setCell ⟨gt, 6, none⟩ (.int .i64 4)).heap[gs]? = some (.cells ([.slice A1 j.splits.length c1, .int .i64 j.parts, .slice A2 j.map.length c2, .slice A3 j.combine.length c3, .slice A4 j.reduce.length c4, .int .i64 j.chunk, .int .i64 j.window, .int .i64 j.fuel, .slice A5 j.marks.length c5, .int .i64 wk, .int .i64 tr, .int .i64 tmo] : List Value).toArray 28 (0, 0)) := (setCell_other (g := gs) _ _ (by have := HGS.out; show gs ≠ gt; omega)).trans HBkgs.out
              have hcD : wB.cell? ⟨gt, 6, none⟩ = some (.int .i64 j.window) := cell_of_blk HBkgt.out
              have hfD : wB.frozen? ⟨gt, 6, none⟩ = false := frozen_of_blk HBkgt.out
              have hcE : (wB.setCell ⟨gt, 6, none⟩ (.int .i64 4)).cell? ⟨gs, 6, none⟩ = some (.int .i64 j.window) := cell_of_blk hEs
              have hfE : (wB.setCell ⟨gt, 6, none⟩ (.int .i64 4)).frozen? ⟨gs, 6, none⟩ = false := frozen_of_blk hEs
              have hfE0 : wB.frozen? ⟨gs, 6, none⟩ = false := frozen_of_blk HBkgs.out
              clear hyes hno hw5 hD5 hE5 hc5 hcm hEs
              go_upto_region 20 with (fail)
              clear hcD hfD hcE hfE hfE0
              rw [← HW5.out]
              have q0 : w5.cell? ⟨gt, 0, none⟩ = some (.slice A1 j.splits.length c1) := cell_of_blk HD5.out
              have q1 : w5.cell? ⟨gt, 1, none⟩ = some (.int .i64 j.parts) := cell_of_blk HD5.out
              have q2 : w5.cell? ⟨gt, 2, none⟩ = some (.slice A2 j.map.length c2) := cell_of_blk HD5.out
              have q3 : w5.cell? ⟨gt, 3, none⟩ = some (.slice A3 j.combine.length c3) := cell_of_blk HD5.out
              have q4 : w5.cell? ⟨gt, 4, none⟩ = some (.slice A4 j.reduce.length c4) := cell_of_blk HD5.out
              have q5 : w5.cell? ⟨gt, 5, none⟩ = some (.int .i64 j.chunk) := cell_of_blk HD5.out
              have q6 : w5.cell? ⟨gt, 6, none⟩ = some (.int .i64 4) := cell_of_blk HD5.out
              have q7 : w5.cell? ⟨gt, 7, none⟩ = some (.int .i64 j.fuel) := cell_of_blk HD5.out
              have q8 : w5.cell? ⟨gt, 8, none⟩ = some (.slice A5 j.marks.length c5) := cell_of_blk HD5.out
              have q9 : w5.cell? ⟨gt, 9, none⟩ = some (.int .i64 wk) := cell_of_blk HD5.out
              have q10 : w5.cell? ⟨gt, 10, none⟩ = some (.int .i64 tr) := cell_of_blk HD5.out
              have q11 : w5.cell? ⟨gt, 11, none⟩ = some (.int .i64 tmo) := cell_of_blk HD5.out
              go_wp2_with fail
              clear q0 q1 q2 q3 q4 q5 q6 q7 q8 q9 q10 q11
              refine (cfgMay ⟨j.splits, j.parts, j.map, j.combine, j.reduce, j.chunk, 4, j.fuel, j.marks⟩ wk tr tmo A1 A2 A3 A4 A5 c1 c2 c3 c4 c5 w5 ⟨HJ5.out.s, HJ5.out.m, HJ5.out.c, HJ5.out.r, HJ5.out.k, HJ5.out.l1, HJ5.out.l2, HJ5.out.l3, HJ5.out.l4, HJ5.out.l5⟩ true ⟨fun _ => HYES.out, fun _ => rfl⟩).mono ?_
              rintro e w6 ⟨rfl, hb6⟩
              have HE6 := Aside0.mk ((hb6.block gs (blk_lt' HE5.out)).trans HE5.out)
              have HJ6 := Aside0.mk (HJ5.out.below hb6)
              have HB6 := Aside0.mk (two_andj _ _ _ HB5.out hb6)
              have q0 : w6.cell? ⟨gs, 0, none⟩ = some (.slice A1 j.splits.length c1) := cell_of_blk HE6.out
              have q1 : w6.cell? ⟨gs, 1, none⟩ = some (.int .i64 j.parts) := cell_of_blk HE6.out
              have q2 : w6.cell? ⟨gs, 2, none⟩ = some (.slice A2 j.map.length c2) := cell_of_blk HE6.out
              have q3 : w6.cell? ⟨gs, 3, none⟩ = some (.slice A3 j.combine.length c3) := cell_of_blk HE6.out
              have q4 : w6.cell? ⟨gs, 4, none⟩ = some (.slice A4 j.reduce.length c4) := cell_of_blk HE6.out
              have q5 : w6.cell? ⟨gs, 5, none⟩ = some (.int .i64 j.chunk) := cell_of_blk HE6.out
              have q6 : w6.cell? ⟨gs, 6, none⟩ = some (.int .i64 0) := cell_of_blk HE6.out
              have q7 : w6.cell? ⟨gs, 7, none⟩ = some (.int .i64 j.fuel) := cell_of_blk HE6.out
              have q8 : w6.cell? ⟨gs, 8, none⟩ = some (.slice A5 j.marks.length c5) := cell_of_blk HE6.out
              have q9 : w6.cell? ⟨gs, 9, none⟩ = some (.int .i64 wk) := cell_of_blk HE6.out
              have q10 : w6.cell? ⟨gs, 10, none⟩ = some (.int .i64 tr) := cell_of_blk HE6.out
              have q11 : w6.cell? ⟨gs, 11, none⟩ = some (.int .i64 tmo) := cell_of_blk HE6.out
              clear hb6
              go_wp2_with fail
              clear q0 q1 q2 q3 q4 q5 q6 q7 q8 q9 q10 q11
              refine (cfgMay ⟨j.splits, j.parts, j.map, j.combine, j.reduce, j.chunk, 0, j.fuel, j.marks⟩ wk tr tmo A1 A2 A3 A4 A5 c1 c2 c3 c4 c5 w6 ⟨HJ6.out.s, HJ6.out.m, HJ6.out.c, HJ6.out.r, HJ6.out.k, HJ6.out.l1, HJ6.out.l2, HJ6.out.l3, HJ6.out.l4, HJ6.out.l5⟩ false ⟨(fun h => absurd h (by simp)), (fun h => absurd h HNO.out)⟩).mono ?_
              rintro e w7 ⟨rfl, hb7⟩
              have HB7 := Aside0.mk (two_andj _ _ _ HB6.out hb7)
              clear hb7
              go_wp2_with fail
              refine (awake12 _).mono ?_
              rintro e w8 ⟨rfl, hb8⟩
              have HB8 := Aside0.mk (two_andj _ _ _ HB7.out hb8)
              clear hb8
              go_wp2_with fail
              go_ret
              exact ⟨rfl, HB8.out⟩
            · have e2 : (lw == 2) = false := beq_eq_false_iff_ne.2 k2
              by_cases k3 : lw = 3
              · subst k3
                clear k0 k1 k2
                have hcm := HCM.out
                have hyes : CfgMay ⟨⟨j.splits, j.parts, j.map, j.combine, j.reduce, j.chunk, j.window, 2000, j.marks⟩, wk, tr, tmo⟩ := ⟨⟨hcm.job.splits, hcm.job.parts, hcm.job.marks4, hcm.job.each, hcm.job.marks, hcm.job.map, hcm.job.reduce, hcm.job.combine, hcm.job.chunk, hcm.job.window, ⟨by show (1 : Int) ≤ 2000; omega, by show (2000 : Int) ≤ 2000; omega⟩⟩, hcm.workers, hcm.tries, hcm.timeout⟩
                have hno : ¬ CfgMay ⟨⟨j.splits, j.parts, j.map, j.combine, j.reduce, j.chunk, j.window, 2001, j.marks⟩, wk, tr, tmo⟩ := fun h => by have h1 := h.job.fuel; have h2 : (1 : Int) ≤ 2001 := h1.1; have h3 : (2001 : Int) ≤ 2000 := h1.2; omega
                have HYES := Aside0.mk hyes
                have HNO := Aside0.mk hno
                obtain ⟨w5, hw5⟩ : ∃ w5, w5 = (wB.setCell ⟨gt, 7, none⟩ (.int .i64 2000)).setCell ⟨gs, 7, none⟩ (.int .i64 2001) := ⟨_, rfl⟩
                have hD5 : w5.heap[gt]? = some (.cells ([.slice A1 j.splits.length c1, .int .i64 j.parts, .slice A2 j.map.length c2, .slice A3 j.combine.length c3, .slice A4 j.reduce.length c4, .int .i64 j.chunk, .int .i64 j.window, .int .i64 2000, .slice A5 j.marks.length c5, .int .i64 wk, .int .i64 tr, .int .i64 tmo] : List Value).toArray 28 (0, 0)) := by rw [hw5]; exact (setCell_other (g := gt) _ _ (by have := HGS.out; show gt ≠ gs; omega)).trans (setCell_blk HBkgt.out _)
                have hE5 : w5.heap[gs]? = some (.cells ([.slice A1 j.splits.length c1, .int .i64 j.parts, .slice A2 j.map.length c2, .slice A3 j.combine.length c3, .slice A4 j.reduce.length c4, .int .i64 j.chunk, .int .i64 j.window, .int .i64 2001, .slice A5 j.marks.length c5, .int .i64 wk, .int .i64 tr, .int .i64 tmo] : List Value).toArray 28 (0, 0)) := by rw [hw5]; exact setCell_blk ((setCell_other (g := gs) _ _ (by have := HGS.out; show gs ≠ gt; omega)).trans HBkgs.out) _
                have hc5 : Ch wB w5 (fun b => b = gt ∨ b = gs) := by rw [hw5]; exact ((Ch.refl wB _).setCell _ _ (.inl rfl)).setCell _ _ (.inr rfl)
                have HB5 := Aside0.mk (Below.ch HBB.out hc5 HBB.out.size (fun b hb => by have := HGS.out; omega))
                have HJ5 : Aside0 (JobC w5 j A1 A2 A3 A4 A5 c1 c2 c3 c4 c5) := ⟨HJ.out.below HB5.out⟩
                have HD5 := Aside0.mk hD5
                have HE5 := Aside0.mk hE5
                have HW5 := Aside0.mk hw5
                have hEs : (wB.setCell ⟨gt, 7, none⟩ (.int .i64 2000)).heap[gs]? = some (.cells ([.slice A1 j.splits.length c1, .int .i64 j.parts, .slice A2 j.map.length c2, .slice A3 j.combine.length c3, .slice A4 j.reduce.length c4, .int .i64 j.chunk, .int .i64 j.window, .int .i64 j.fuel, .slice A5 j.marks.length c5, .int .i64 wk, .int .i64 tr, .int .i64 tmo] : List Value).toArray 28 (0, 0)) := (setCell_other (g := gs) _ _ (by have := HGS.out; show gs ≠ gt; omega)).trans HBkgs.out
                have hcD : wB.cell? ⟨gt, 7, none⟩ = some (.int .i64 j.fuel) := cell_of_blk HBkgt.out
                have hfD : wB.frozen? ⟨gt, 7, none⟩ = false := frozen_of_blk HBkgt.out
                have hcE : (wB.setCell ⟨gt, 7, none⟩ (.int .i64 2000)).cell? ⟨gs, 7, none⟩ = some (.int .i64 j.fuel) := cell_of_blk hEs
                have hfE : (wB.setCell ⟨gt, 7, none⟩ (.int .i64 2000)).frozen? ⟨gs, 7, none⟩ = false := frozen_of_blk hEs
                have hfE0 : wB.frozen? ⟨gs, 7, none⟩ = false := frozen_of_blk HBkgs.out
                clear hyes hno hw5 hD5 hE5 hc5 hcm hEs
                go_upto_region 20 with (fail)
                clear hcD hfD hcE hfE hfE0
                rw [← HW5.out]
                have q0 : w5.cell? ⟨gt, 0, none⟩ = some (.slice A1 j.splits.length c1) := cell_of_blk HD5.out
                have q1 : w5.cell? ⟨gt, 1, none⟩ = some (.int .i64 j.parts) := cell_of_blk HD5.out
                have q2 : w5.cell? ⟨gt, 2, none⟩ = some (.slice A2 j.map.length c2) := cell_of_blk HD5.out
                have q3 : w5.cell? ⟨gt, 3, none⟩ = some (.slice A3 j.combine.length c3) := cell_of_blk HD5.out
                have q4 : w5.cell? ⟨gt, 4, none⟩ = some (.slice A4 j.reduce.length c4) := cell_of_blk HD5.out
                have q5 : w5.cell? ⟨gt, 5, none⟩ = some (.int .i64 j.chunk) := cell_of_blk HD5.out
                have q6 : w5.cell? ⟨gt, 6, none⟩ = some (.int .i64 j.window) := cell_of_blk HD5.out
                have q7 : w5.cell? ⟨gt, 7, none⟩ = some (.int .i64 2000) := cell_of_blk HD5.out
                have q8 : w5.cell? ⟨gt, 8, none⟩ = some (.slice A5 j.marks.length c5) := cell_of_blk HD5.out
                have q9 : w5.cell? ⟨gt, 9, none⟩ = some (.int .i64 wk) := cell_of_blk HD5.out
                have q10 : w5.cell? ⟨gt, 10, none⟩ = some (.int .i64 tr) := cell_of_blk HD5.out
                have q11 : w5.cell? ⟨gt, 11, none⟩ = some (.int .i64 tmo) := cell_of_blk HD5.out
                go_wp2_with fail
                clear q0 q1 q2 q3 q4 q5 q6 q7 q8 q9 q10 q11
                refine (cfgMay ⟨j.splits, j.parts, j.map, j.combine, j.reduce, j.chunk, j.window, 2000, j.marks⟩ wk tr tmo A1 A2 A3 A4 A5 c1 c2 c3 c4 c5 w5 ⟨HJ5.out.s, HJ5.out.m, HJ5.out.c, HJ5.out.r, HJ5.out.k, HJ5.out.l1, HJ5.out.l2, HJ5.out.l3, HJ5.out.l4, HJ5.out.l5⟩ true ⟨fun _ => HYES.out, fun _ => rfl⟩).mono ?_
                rintro e w6 ⟨rfl, hb6⟩
                have HE6 := Aside0.mk ((hb6.block gs (blk_lt' HE5.out)).trans HE5.out)
                have HJ6 := Aside0.mk (HJ5.out.below hb6)
                have HB6 := Aside0.mk (two_andj _ _ _ HB5.out hb6)
                have q0 : w6.cell? ⟨gs, 0, none⟩ = some (.slice A1 j.splits.length c1) := cell_of_blk HE6.out
                have q1 : w6.cell? ⟨gs, 1, none⟩ = some (.int .i64 j.parts) := cell_of_blk HE6.out
                have q2 : w6.cell? ⟨gs, 2, none⟩ = some (.slice A2 j.map.length c2) := cell_of_blk HE6.out
                have q3 : w6.cell? ⟨gs, 3, none⟩ = some (.slice A3 j.combine.length c3) := cell_of_blk HE6.out
                have q4 : w6.cell? ⟨gs, 4, none⟩ = some (.slice A4 j.reduce.length c4) := cell_of_blk HE6.out
                have q5 : w6.cell? ⟨gs, 5, none⟩ = some (.int .i64 j.chunk) := cell_of_blk HE6.out
                have q6 : w6.cell? ⟨gs, 6, none⟩ = some (.int .i64 j.window) := cell_of_blk HE6.out
                have q7 : w6.cell? ⟨gs, 7, none⟩ = some (.int .i64 2001) := cell_of_blk HE6.out
                have q8 : w6.cell? ⟨gs, 8, none⟩ = some (.slice A5 j.marks.length c5) := cell_of_blk HE6.out
                have q9 : w6.cell? ⟨gs, 9, none⟩ = some (.int .i64 wk) := cell_of_blk HE6.out
                have q10 : w6.cell? ⟨gs, 10, none⟩ = some (.int .i64 tr) := cell_of_blk HE6.out
                have q11 : w6.cell? ⟨gs, 11, none⟩ = some (.int .i64 tmo) := cell_of_blk HE6.out
                clear hb6
                go_wp2_with fail
                clear q0 q1 q2 q3 q4 q5 q6 q7 q8 q9 q10 q11
                refine (cfgMay ⟨j.splits, j.parts, j.map, j.combine, j.reduce, j.chunk, j.window, 2001, j.marks⟩ wk tr tmo A1 A2 A3 A4 A5 c1 c2 c3 c4 c5 w6 ⟨HJ6.out.s, HJ6.out.m, HJ6.out.c, HJ6.out.r, HJ6.out.k, HJ6.out.l1, HJ6.out.l2, HJ6.out.l3, HJ6.out.l4, HJ6.out.l5⟩ false ⟨(fun h => absurd h (by simp)), (fun h => absurd h HNO.out)⟩).mono ?_
                rintro e w7 ⟨rfl, hb7⟩
                have HB7 := Aside0.mk (two_andj _ _ _ HB6.out hb7)
                clear hb7
                go_wp2_with fail
                refine (awake12 _).mono ?_
                rintro e w8 ⟨rfl, hb8⟩
                have HB8 := Aside0.mk (two_andj _ _ _ HB7.out hb8)
                clear hb8
                go_wp2_with fail
                go_ret
                exact ⟨rfl, HB8.out⟩
              · have e3 : (lw == 3) = false := beq_eq_false_iff_ne.2 k3
                by_cases k4 : lw = 4
                · subst k4
                  clear k0 k1 k2 k3
                  have hl6 : (j.splits.length : Int) ≤ 6 := HCM.out.job.splits.2
                  have hw1 : IntKind.i64.wrap ((j.splits.length : Int) + 1) = (j.splits.length : Int) + 1 := IntWalk.i64_in _ (by omega)
                  have hcD : wB.cell? ⟨gt, 8, none⟩ = some (.slice A5 j.marks.length c5) := cell_of_blk HBkgt.out
                  have hcE : wB.cell? ⟨gs, 8, none⟩ = some (.slice A5 j.marks.length c5) := cell_of_blk HBkgs.out
                  have hfD : wB.frozen? ⟨gt, 8, none⟩ = false := frozen_of_blk HBkgt.out
                  have hfE : wB.frozen? ⟨gs, 8, none⟩ = false := frozen_of_blk HBkgs.out
                  have hc0 := HGB.out
                  have hlD : gt < wB.heap.size := blk_lt' HBkgt.out
                  have hlE : gs < wB.heap.size := blk_lt' HBkgs.out
                  have hlg : g < wB.heap.size := World.block_lt_of_cell? wB _ hc0
                  have hn1 : ¬ gt = wB.heap.size := by omega
                  have hn2 : ¬ gs = wB.heap.size := by omega
                  have hn3 : ¬ g = wB.heap.size := by omega
                  have hn4 : ¬ gt = gs := by have := HGS.out; omega
                  have hn5 : ¬ gs = gt := by have := HGS.out; omega
                  have hl1 : gt < wB.heap.size + 1 := by omega
                  have hl2 : gs < wB.heap.size + 1 := by omega
                  have hl3 : g < wB.heap.size + 1 := by omega
                  go_wp2_with fail
                  go_region
                  · clear hw1 hcD hcE hfD hfE hc0 hlD hlE hlg hn1 hn2 hn3 hn4 hn5 hl1 hl2 hl3
                    have hcm := HCM.out
                    have hs1 : 1 ≤ (j.splits.length : Int) := hcm.job.splits.1
                    have hyes : CfgMay ⟨⟨j.splits, j.parts, j.map, j.combine, j.reduce, j.chunk, j.window, j.fuel, [(j.splits.length : Int)]⟩, wk, tr, tmo⟩ := ⟨⟨hcm.job.splits, hcm.job.parts, by show 1 ≤ 4; omega, hcm.job.each, (fun i hi => by
                      have h0 : i = 0 := by have : i < 1 := hi; omega
                      subst h0
                      exact ⟨by show (0 : Int) < (j.splits.length : Int); omega, Int.le_refl _⟩), hcm.job.map, hcm.job.reduce, hcm.job.combine, hcm.job.chunk, hcm.job.window, hcm.job.fuel⟩, hcm.workers, hcm.tries, hcm.timeout⟩
                    have hno : ¬ CfgMay ⟨⟨j.splits, j.parts, j.map, j.combine, j.reduce, j.chunk, j.window, j.fuel, [(j.splits.length : Int) + 1]⟩, wk, tr, tmo⟩ := fun h => by
                      have h1 : (j.splits.length : Int) + 1 ≤ (j.splits.length : Int) := (h.job.marks 0 (by show 0 < 1; omega)).2
                      omega
                    have HYES := Aside0.mk hyes
                    have HNO := Aside0.mk hno
                    obtain ⟨p0, hp0⟩ : ∃ x, x = wB.heap.size := ⟨_, rfl⟩
                    obtain ⟨p1, hp1⟩ : ∃ x, x = wB.heap.size + 1 := ⟨_, rfl⟩
                    obtain ⟨wS, hwS⟩ : ∃ x, x = (wB.setCell ⟨gt, 8, none⟩ (.slice (some ⟨p0, 0, none⟩) 1 1)).setCell ⟨gs, 8, none⟩ (.slice (some ⟨p1, 0, none⟩) 1 1) := ⟨_, rfl⟩
                    obtain ⟨w5, hw5⟩ : ∃ x, x = ((wS.alloc (.cells #[.int .i64 (j.splits.length : Int)] 3)).alloc (.cells #[.int .i64 ((j.splits.length : Int) + 1)] 3)).drew := ⟨_, rfl⟩
                    have hsz : wS.heap.size = p0 := by rw [hwS, hp0]; simp [World.setCell]
                    have hsz1 : (wS.alloc (.cells #[.int .i64 (j.splits.length : Int)] 3)).heap.size = p1 := by rw [alloc_sizej, hsz, hp0, hp1]
                    have hSD : wS.heap[gt]? = some (.cells ([.slice A1 j.splits.length c1, .int .i64 j.parts, .slice A2 j.map.length c2, .slice A3 j.combine.length c3, .slice A4 j.reduce.length c4, .int .i64 j.chunk, .int .i64 j.window, .int .i64 j.fuel, .slice (some ⟨p0, 0, none⟩) 1 1, .int .i64 wk, .int .i64 tr, .int .i64 tmo] : List Value).toArray 28 (0, 0)) := by rw [hwS]; exact (setCell_other (g := gt) _ _ (by have := HGS.out; show gt ≠ gs; omega)).trans (setCell_blk HBkgt.out _)
                    have hSE : wS.heap[gs]? = some (.cells ([.slice A1 j.splits.length c1, .int .i64 j.parts, .slice A2 j.map.length c2, .slice A3 j.combine.length c3, .slice A4 j.reduce.length c4, .int .i64 j.chunk, .int .i64 j.window, .int .i64 j.fuel, .slice (some ⟨p1, 0, none⟩) 1 1, .int .i64 wk, .int .i64 tr, .int .i64 tmo] : List Value).toArray 28 (0, 0)) := by rw [hwS]; exact setCell_blk ((setCell_other (g := gs) _ _ (by have := HGS.out; show gs ≠ gt; omega)).trans HBkgs.out) _
                    have hcS : Ch wB wS (fun b => b = gt ∨ b = gs) := by rw [hwS]; exact ((Ch.refl wB _).setCell _ _ (.inl rfl)).setCell _ _ (.inr rfl)
                    have hBS := Below.ch HBB.out hcS HBB.out.size (fun b hb => by have := HGS.out; omega)
                    have hB5 : Below W.heap.size W w5 := by
                      rw [hw5]
                      exact below_drew1 ((hBS.alloc hBS.size _).alloc (hBS.alloc hBS.size _).size _)
                    have hk : ∀ {q : Nat} {o : Obj}, wS.heap[q]? = some o → w5.heap[q]? = some o := fun h => by
                      rw [hw5]
                      exact alloc_keeps (alloc_keeps h _) _
                    have hX : w5.heap[p0]? = some (.cells ([.int .i64 (j.splits.length : Int)] : List Value).toArray 3 (0, 0)) := by
                      rw [hw5, ← hsz]
                      exact alloc_keeps (alloc_at wS _) _
                    have hY : w5.heap[p1]? = some (.cells ([.int .i64 ((j.splits.length : Int) + 1)] : List Value).toArray 3 (0, 0)) := by
                      rw [hw5, ← hsz1]
                      exact alloc_at _ _
                    have HMD : Aside0 (Kd.C (Kd.int .i64) w5 (some ⟨p0, 0, none⟩) 1 [(j.splits.length : Int)]) := ⟨C_one hX rfl⟩
                    have HME : Aside0 (Kd.C (Kd.int .i64) w5 (some ⟨p1, 0, none⟩) 1 [(j.splits.length : Int) + 1]) := ⟨C_one hY rfl⟩
                    have HB5 := Aside0.mk hB5
                    have HJ5 : Aside0 (JobC w5 j A1 A2 A3 A4 A5 c1 c2 c3 c4 c5) := ⟨HJ.out.below HB5.out⟩
                    have HD5 := Aside0.mk (hk hSD)
                    have HE5 := Aside0.mk (hk hSE)
                    have HW5 := Aside0.mk hw5
                    have HWS := Aside0.mk hwS
                    have HP0 := Aside0.mk hp0
                    have HP1 := Aside0.mk hp1
                    clear hyes hno hp0 hp1 hwS hw5 hsz hsz1 hSD hSE hcS hBS hB5 hk hX hY hcm hs1 hl6
                    rw [← HP1.out, ← HP0.out, ← HWS.out, ← HW5.out]
                    have q0 : w5.cell? ⟨gt, 0, none⟩ = some (.slice A1 j.splits.length c1) := cell_of_blk HD5.out
                    have q1 : w5.cell? ⟨gt, 1, none⟩ = some (.int .i64 j.parts) := cell_of_blk HD5.out
                    have q2 : w5.cell? ⟨gt, 2, none⟩ = some (.slice A2 j.map.length c2) := cell_of_blk HD5.out
                    have q3 : w5.cell? ⟨gt, 3, none⟩ = some (.slice A3 j.combine.length c3) := cell_of_blk HD5.out
                    have q4 : w5.cell? ⟨gt, 4, none⟩ = some (.slice A4 j.reduce.length c4) := cell_of_blk HD5.out
                    have q5 : w5.cell? ⟨gt, 5, none⟩ = some (.int .i64 j.chunk) := cell_of_blk HD5.out
                    have q6 : w5.cell? ⟨gt, 6, none⟩ = some (.int .i64 j.window) := cell_of_blk HD5.out
                    have q7 : w5.cell? ⟨gt, 7, none⟩ = some (.int .i64 j.fuel) := cell_of_blk HD5.out
                    have q8 : w5.cell? ⟨gt, 8, none⟩ = some (.slice (some ⟨p0, 0, none⟩) 1 1) := cell_of_blk HD5.out
                    have q9 : w5.cell? ⟨gt, 9, none⟩ = some (.int .i64 wk) := cell_of_blk HD5.out
                    have q10 : w5.cell? ⟨gt, 10, none⟩ = some (.int .i64 tr) := cell_of_blk HD5.out
                    have q11 : w5.cell? ⟨gt, 11, none⟩ = some (.int .i64 tmo) := cell_of_blk HD5.out
                    go_wp2_with fail
                    clear q0 q1 q2 q3 q4 q5 q6 q7 q8 q9 q10 q11
                    refine (cfgMay ⟨j.splits, j.parts, j.map, j.combine, j.reduce, j.chunk, j.window, j.fuel, [(j.splits.length : Int)]⟩ wk tr tmo A1 A2 A3 A4 (some ⟨p0, 0, none⟩) c1 c2 c3 c4 1 w5 ⟨HJ5.out.s, HJ5.out.m, HJ5.out.c, HJ5.out.r, HMD.out, HJ5.out.l1, HJ5.out.l2, HJ5.out.l3, HJ5.out.l4, Nat.le_refl _⟩ true ⟨fun _ => HYES.out, fun _ => rfl⟩).mono ?_
                    rintro e w6 ⟨rfl, hb6⟩
                    have HE6 := Aside0.mk ((hb6.block gs (blk_lt' HE5.out)).trans HE5.out)
                    have HJ6 := Aside0.mk (HJ5.out.below hb6)
                    have HME6 := Aside0.mk (Kd.C_below HME.out hb6)
                    have HB6 := Aside0.mk (two_andj _ _ _ HB5.out hb6)
                    have q0 : w6.cell? ⟨gs, 0, none⟩ = some (.slice A1 j.splits.length c1) := cell_of_blk HE6.out
                    have q1 : w6.cell? ⟨gs, 1, none⟩ = some (.int .i64 j.parts) := cell_of_blk HE6.out
                    have q2 : w6.cell? ⟨gs, 2, none⟩ = some (.slice A2 j.map.length c2) := cell_of_blk HE6.out
                    have q3 : w6.cell? ⟨gs, 3, none⟩ = some (.slice A3 j.combine.length c3) := cell_of_blk HE6.out
                    have q4 : w6.cell? ⟨gs, 4, none⟩ = some (.slice A4 j.reduce.length c4) := cell_of_blk HE6.out
                    have q5 : w6.cell? ⟨gs, 5, none⟩ = some (.int .i64 j.chunk) := cell_of_blk HE6.out
                    have q6 : w6.cell? ⟨gs, 6, none⟩ = some (.int .i64 j.window) := cell_of_blk HE6.out
                    have q7 : w6.cell? ⟨gs, 7, none⟩ = some (.int .i64 j.fuel) := cell_of_blk HE6.out
                    have q8 : w6.cell? ⟨gs, 8, none⟩ = some (.slice (some ⟨p1, 0, none⟩) 1 1) := cell_of_blk HE6.out
                    have q9 : w6.cell? ⟨gs, 9, none⟩ = some (.int .i64 wk) := cell_of_blk HE6.out
                    have q10 : w6.cell? ⟨gs, 10, none⟩ = some (.int .i64 tr) := cell_of_blk HE6.out
                    have q11 : w6.cell? ⟨gs, 11, none⟩ = some (.int .i64 tmo) := cell_of_blk HE6.out
                    clear hb6
                    go_wp2_with fail
                    clear q0 q1 q2 q3 q4 q5 q6 q7 q8 q9 q10 q11
                    refine (cfgMay ⟨j.splits, j.parts, j.map, j.combine, j.reduce, j.chunk, j.window, j.fuel, [(j.splits.length : Int) + 1]⟩ wk tr tmo A1 A2 A3 A4 (some ⟨p1, 0, none⟩) c1 c2 c3 c4 1 w6 ⟨HJ6.out.s, HJ6.out.m, HJ6.out.c, HJ6.out.r, HME6.out, HJ6.out.l1, HJ6.out.l2, HJ6.out.l3, HJ6.out.l4, Nat.le_refl _⟩ false ⟨(fun h => absurd h (by simp)), (fun h => absurd h HNO.out)⟩).mono ?_
                    rintro e w7 ⟨rfl, hb7⟩
                    have HB7 := Aside0.mk (two_andj _ _ _ HB6.out hb7)
                    clear hb7
                    go_wp2_with fail
                    refine (awake12 _).mono ?_
                    rintro e w8 ⟨rfl, hb8⟩
                    have HB8 := Aside0.mk (two_andj _ _ _ HB7.out hb8)
                    clear hb8
                    go_wp2_with fail
                    go_ret
                    exact ⟨rfl, HB8.out⟩
                  · clear hw1 hcD hcE hfD hfE hc0 hlD hlE hlg hn1 hn2 hn3 hn4 hn5 hl1 hl2 hl3
                    have hcm := HCM.out
                    have hs1 : 1 ≤ (j.splits.length : Int) := hcm.job.splits.1
                    have hyes : CfgMay ⟨⟨j.splits, j.parts, j.map, j.combine, j.reduce, j.chunk, j.window, j.fuel, [(j.splits.length : Int)]⟩, wk, tr, tmo⟩ := ⟨⟨hcm.job.splits, hcm.job.parts, by show 1 ≤ 4; omega, hcm.job.each, (fun i hi => by
                      have h0 : i = 0 := by have : i < 1 := hi; omega
                      subst h0
                      exact ⟨by show (0 : Int) < (j.splits.length : Int); omega, Int.le_refl _⟩), hcm.job.map, hcm.job.reduce, hcm.job.combine, hcm.job.chunk, hcm.job.window, hcm.job.fuel⟩, hcm.workers, hcm.tries, hcm.timeout⟩
                    have hno : ¬ CfgMay ⟨⟨j.splits, j.parts, j.map, j.combine, j.reduce, j.chunk, j.window, j.fuel, [(j.splits.length : Int) + 1]⟩, wk, tr, tmo⟩ := fun h => by
                      have h1 : (j.splits.length : Int) + 1 ≤ (j.splits.length : Int) := (h.job.marks 0 (by show 0 < 1; omega)).2
                      omega
                    have HYES := Aside0.mk hyes
                    have HNO := Aside0.mk hno
                    obtain ⟨p0, hp0⟩ : ∃ x, x = wB.heap.size := ⟨_, rfl⟩
                    obtain ⟨p1, hp1⟩ : ∃ x, x = wB.heap.size + 1 := ⟨_, rfl⟩
                    obtain ⟨wS, hwS⟩ : ∃ x, x = (wB.setCell ⟨gt, 8, none⟩ (.slice (some ⟨p1, 0, none⟩) 1 1)).setCell ⟨gs, 8, none⟩ (.slice (some ⟨p0, 0, none⟩) 1 1) := ⟨_, rfl⟩
                    obtain ⟨w5, hw5⟩ : ∃ x, x = ((wS.alloc (.cells #[.int .i64 ((j.splits.length : Int) + 1)] 3)).alloc (.cells #[.int .i64 (j.splits.length : Int)] 3)).drew := ⟨_, rfl⟩
                    have hsz : wS.heap.size = p0 := by rw [hwS, hp0]; simp [World.setCell]
                    have hsz1 : (wS.alloc (.cells #[.int .i64 ((j.splits.length : Int) + 1)] 3)).heap.size = p1 := by rw [alloc_sizej, hsz, hp0, hp1]
                    have hSD : wS.heap[gt]? = some (.cells ([.slice A1 j.splits.length c1, .int .i64 j.parts, .slice A2 j.map.length c2, .slice A3 j.combine.length c3, .slice A4 j.reduce.length c4, .int .i64 j.chunk, .int .i64 j.window, .int .i64 j.fuel, .slice (some ⟨p1, 0, none⟩) 1 1, .int .i64 wk, .int .i64 tr, .int .i64 tmo] : List Value).toArray 28 (0, 0)) := by rw [hwS]; exact (setCell_other (g := gt) _ _ (by have := HGS.out; show gt ≠ gs; omega)).trans (setCell_blk HBkgt.out _)
                    have hSE : wS.heap[gs]? = some (.cells ([.slice A1 j.splits.length c1, .int .i64 j.parts, .slice A2 j.map.length c2, .slice A3 j.combine.length c3, .slice A4 j.reduce.length c4, .int .i64 j.chunk, .int .i64 j.window, .int .i64 j.fuel, .slice (some ⟨p0, 0, none⟩) 1 1, .int .i64 wk, .int .i64 tr, .int .i64 tmo] : List Value).toArray 28 (0, 0)) := by rw [hwS]; exact setCell_blk ((setCell_other (g := gs) _ _ (by have := HGS.out; show gs ≠ gt; omega)).trans HBkgs.out) _
                    have hcS : Ch wB wS (fun b => b = gt ∨ b = gs) := by rw [hwS]; exact ((Ch.refl wB _).setCell _ _ (.inl rfl)).setCell _ _ (.inr rfl)
                    have hBS := Below.ch HBB.out hcS HBB.out.size (fun b hb => by have := HGS.out; omega)
                    have hB5 : Below W.heap.size W w5 := by
                      rw [hw5]
                      exact below_drew1 ((hBS.alloc hBS.size _).alloc (hBS.alloc hBS.size _).size _)
                    have hk : ∀ {q : Nat} {o : Obj}, wS.heap[q]? = some o → w5.heap[q]? = some o := fun h => by
                      rw [hw5]
                      exact alloc_keeps (alloc_keeps h _) _
                    have hX : w5.heap[p0]? = some (.cells ([.int .i64 ((j.splits.length : Int) + 1)] : List Value).toArray 3 (0, 0)) := by
                      rw [hw5, ← hsz]
                      exact alloc_keeps (alloc_at wS _) _
                    have hY : w5.heap[p1]? = some (.cells ([.int .i64 (j.splits.length : Int)] : List Value).toArray 3 (0, 0)) := by
                      rw [hw5, ← hsz1]
                      exact alloc_at _ _
                    have HMD : Aside0 (Kd.C (Kd.int .i64) w5 (some ⟨p1, 0, none⟩) 1 [(j.splits.length : Int)]) := ⟨C_one hY rfl⟩
                    have HME : Aside0 (Kd.C (Kd.int .i64) w5 (some ⟨p0, 0, none⟩) 1 [(j.splits.length : Int) + 1]) := ⟨C_one hX rfl⟩
                    have HB5 := Aside0.mk hB5
                    have HJ5 : Aside0 (JobC w5 j A1 A2 A3 A4 A5 c1 c2 c3 c4 c5) := ⟨HJ.out.below HB5.out⟩
                    have HD5 := Aside0.mk (hk hSD)
                    have HE5 := Aside0.mk (hk hSE)
                    have HW5 := Aside0.mk hw5
                    have HWS := Aside0.mk hwS
                    have HP0 := Aside0.mk hp0
                    have HP1 := Aside0.mk hp1
                    clear hyes hno hp0 hp1 hwS hw5 hsz hsz1 hSD hSE hcS hBS hB5 hk hX hY hcm hs1 hl6
                    rw [← HP1.out, ← HP0.out, ← HWS.out, ← HW5.out]
                    have q0 : w5.cell? ⟨gt, 0, none⟩ = some (.slice A1 j.splits.length c1) := cell_of_blk HD5.out
                    have q1 : w5.cell? ⟨gt, 1, none⟩ = some (.int .i64 j.parts) := cell_of_blk HD5.out
                    have q2 : w5.cell? ⟨gt, 2, none⟩ = some (.slice A2 j.map.length c2) := cell_of_blk HD5.out
                    have q3 : w5.cell? ⟨gt, 3, none⟩ = some (.slice A3 j.combine.length c3) := cell_of_blk HD5.out
                    have q4 : w5.cell? ⟨gt, 4, none⟩ = some (.slice A4 j.reduce.length c4) := cell_of_blk HD5.out
                    have q5 : w5.cell? ⟨gt, 5, none⟩ = some (.int .i64 j.chunk) := cell_of_blk HD5.out
                    have q6 : w5.cell? ⟨gt, 6, none⟩ = some (.int .i64 j.window) := cell_of_blk HD5.out
                    have q7 : w5.cell? ⟨gt, 7, none⟩ = some (.int .i64 j.fuel) := cell_of_blk HD5.out
                    have q8 : w5.cell? ⟨gt, 8, none⟩ = some (.slice (some ⟨p1, 0, none⟩) 1 1) := cell_of_blk HD5.out
                    have q9 : w5.cell? ⟨gt, 9, none⟩ = some (.int .i64 wk) := cell_of_blk HD5.out
                    have q10 : w5.cell? ⟨gt, 10, none⟩ = some (.int .i64 tr) := cell_of_blk HD5.out
                    have q11 : w5.cell? ⟨gt, 11, none⟩ = some (.int .i64 tmo) := cell_of_blk HD5.out
                    go_wp2_with fail
                    clear q0 q1 q2 q3 q4 q5 q6 q7 q8 q9 q10 q11
                    refine (cfgMay ⟨j.splits, j.parts, j.map, j.combine, j.reduce, j.chunk, j.window, j.fuel, [(j.splits.length : Int)]⟩ wk tr tmo A1 A2 A3 A4 (some ⟨p1, 0, none⟩) c1 c2 c3 c4 1 w5 ⟨HJ5.out.s, HJ5.out.m, HJ5.out.c, HJ5.out.r, HMD.out, HJ5.out.l1, HJ5.out.l2, HJ5.out.l3, HJ5.out.l4, Nat.le_refl _⟩ true ⟨fun _ => HYES.out, fun _ => rfl⟩).mono ?_
                    rintro e w6 ⟨rfl, hb6⟩
                    have HE6 := Aside0.mk ((hb6.block gs (blk_lt' HE5.out)).trans HE5.out)
                    have HJ6 := Aside0.mk (HJ5.out.below hb6)
                    have HME6 := Aside0.mk (Kd.C_below HME.out hb6)
                    have HB6 := Aside0.mk (two_andj _ _ _ HB5.out hb6)
                    have q0 : w6.cell? ⟨gs, 0, none⟩ = some (.slice A1 j.splits.length c1) := cell_of_blk HE6.out
                    have q1 : w6.cell? ⟨gs, 1, none⟩ = some (.int .i64 j.parts) := cell_of_blk HE6.out
                    have q2 : w6.cell? ⟨gs, 2, none⟩ = some (.slice A2 j.map.length c2) := cell_of_blk HE6.out
                    have q3 : w6.cell? ⟨gs, 3, none⟩ = some (.slice A3 j.combine.length c3) := cell_of_blk HE6.out
                    have q4 : w6.cell? ⟨gs, 4, none⟩ = some (.slice A4 j.reduce.length c4) := cell_of_blk HE6.out
                    have q5 : w6.cell? ⟨gs, 5, none⟩ = some (.int .i64 j.chunk) := cell_of_blk HE6.out
                    have q6 : w6.cell? ⟨gs, 6, none⟩ = some (.int .i64 j.window) := cell_of_blk HE6.out
                    have q7 : w6.cell? ⟨gs, 7, none⟩ = some (.int .i64 j.fuel) := cell_of_blk HE6.out
                    have q8 : w6.cell? ⟨gs, 8, none⟩ = some (.slice (some ⟨p0, 0, none⟩) 1 1) := cell_of_blk HE6.out
                    have q9 : w6.cell? ⟨gs, 9, none⟩ = some (.int .i64 wk) := cell_of_blk HE6.out
                    have q10 : w6.cell? ⟨gs, 10, none⟩ = some (.int .i64 tr) := cell_of_blk HE6.out
                    have q11 : w6.cell? ⟨gs, 11, none⟩ = some (.int .i64 tmo) := cell_of_blk HE6.out
                    clear hb6
                    go_wp2_with fail
                    clear q0 q1 q2 q3 q4 q5 q6 q7 q8 q9 q10 q11
                    refine (cfgMay ⟨j.splits, j.parts, j.map, j.combine, j.reduce, j.chunk, j.window, j.fuel, [(j.splits.length : Int) + 1]⟩ wk tr tmo A1 A2 A3 A4 (some ⟨p0, 0, none⟩) c1 c2 c3 c4 1 w6 ⟨HJ6.out.s, HJ6.out.m, HJ6.out.c, HJ6.out.r, HME6.out, HJ6.out.l1, HJ6.out.l2, HJ6.out.l3, HJ6.out.l4, Nat.le_refl _⟩ false ⟨(fun h => absurd h (by simp)), (fun h => absurd h HNO.out)⟩).mono ?_
                    rintro e w7 ⟨rfl, hb7⟩
                    have HB7 := Aside0.mk (two_andj _ _ _ HB6.out hb7)
                    clear hb7
                    go_wp2_with fail
                    refine (awake12 _).mono ?_
                    rintro e w8 ⟨rfl, hb8⟩
                    have HB8 := Aside0.mk (two_andj _ _ _ HB7.out hb8)
                    clear hb8
                    go_wp2_with fail
                    go_ret
                    exact ⟨rfl, HB8.out⟩
                · have e4 : (lw == 4) = false := beq_eq_false_iff_ne.2 k4
                  by_cases k5 : lw = 5
                  · subst k5
                    clear k0 k1 k2 k3 k4
                    have hcm := HCM.out
                    have hyes : CfgMay ⟨j, 4, tr, tmo⟩ := ⟨hcm.job, ⟨by show (1 : Int) ≤ 4; omega, by show (4 : Int) ≤ 4; omega⟩, hcm.tries, hcm.timeout⟩
                    have hno : ¬ CfgMay ⟨j, 5, tr, tmo⟩ := fun h => by have h1 := h.workers; have h2 : (1 : Int) ≤ 5 := h1.1; have h3 : (5 : Int) ≤ 4 := h1.2; omega
                    have HYES := Aside0.mk hyes
                    have HNO := Aside0.mk hno
                    obtain ⟨w5, hw5⟩ : ∃ w5, w5 = (wB.setCell ⟨gt, 9, none⟩ (.int .i64 4)).setCell ⟨gs, 9, none⟩ (.int .i64 5) := ⟨_, rfl⟩
                    have hD5 : w5.heap[gt]? = some (.cells ([.slice A1 j.splits.length c1, .int .i64 j.parts, .slice A2 j.map.length c2, .slice A3 j.combine.length c3, .slice A4 j.reduce.length c4, .int .i64 j.chunk, .int .i64 j.window, .int .i64 j.fuel, .slice A5 j.marks.length c5, .int .i64 4, .int .i64 tr, .int .i64 tmo] : List Value).toArray 28 (0, 0)) := by rw [hw5]; exact (setCell_other (g := gt) _ _ (by have := HGS.out; show gt ≠ gs; omega)).trans (setCell_blk HBkgt.out _)
                    have hE5 : w5.heap[gs]? = some (.cells ([.slice A1 j.splits.length c1, .int .i64 j.parts, .slice A2 j.map.length c2, .slice A3 j.combine.length c3, .slice A4 j.reduce.length c4, .int .i64 j.chunk, .int .i64 j.window, .int .i64 j.fuel, .slice A5 j.marks.length c5, .int .i64 5, .int .i64 tr, .int .i64 tmo] : List Value).toArray 28 (0, 0)) := by rw [hw5]; exact setCell_blk ((setCell_other (g := gs) _ _ (by have := HGS.out; show gs ≠ gt; omega)).trans HBkgs.out) _
                    have hc5 : Ch wB w5 (fun b => b = gt ∨ b = gs) := by rw [hw5]; exact ((Ch.refl wB _).setCell _ _ (.inl rfl)).setCell _ _ (.inr rfl)
                    have HB5 := Aside0.mk (Below.ch HBB.out hc5 HBB.out.size (fun b hb => by have := HGS.out; omega))
                    have HJ5 : Aside0 (JobC w5 j A1 A2 A3 A4 A5 c1 c2 c3 c4 c5) := ⟨HJ.out.below HB5.out⟩
                    have HD5 := Aside0.mk hD5
                    have HE5 := Aside0.mk hE5
                    have HW5 := Aside0.mk hw5
                    have hEs : (wB.setCell ⟨gt, 9, none⟩ (.int .i64 4)).heap[gs]? = some (.cells ([.slice A1 j.splits.length c1, .int .i64 j.parts, .slice A2 j.map.length c2, .slice A3 j.combine.length c3, .slice A4 j.reduce.length c4, .int .i64 j.chunk, .int .i64 j.window, .int .i64 j.fuel, .slice A5 j.marks.length c5, .int .i64 wk, .int .i64 tr, .int .i64 tmo] : List Value).toArray 28 (0, 0)) := (setCell_other (g := gs) _ _ (by have := HGS.out; show gs ≠ gt; omega)).trans HBkgs.out
                    have hcD : wB.cell? ⟨gt, 9, none⟩ = some (.int .i64 wk) := cell_of_blk HBkgt.out
                    have hfD : wB.frozen? ⟨gt, 9, none⟩ = false := frozen_of_blk HBkgt.out
                    have hcE : (wB.setCell ⟨gt, 9, none⟩ (.int .i64 4)).cell? ⟨gs, 9, none⟩ = some (.int .i64 wk) := cell_of_blk hEs
                    have hfE : (wB.setCell ⟨gt, 9, none⟩ (.int .i64 4)).frozen? ⟨gs, 9, none⟩ = false := frozen_of_blk hEs
                    have hfE0 : wB.frozen? ⟨gs, 9, none⟩ = false := frozen_of_blk HBkgs.out
                    clear hyes hno hw5 hD5 hE5 hc5 hcm hEs
                    go_upto_region 20 with (fail)
                    clear hcD hfD hcE hfE hfE0
                    rw [← HW5.out]
                    have q0 : w5.cell? ⟨gt, 0, none⟩ = some (.slice A1 j.splits.length c1) := cell_of_blk HD5.out
                    have q1 : w5.cell? ⟨gt, 1, none⟩ = some (.int .i64 j.parts) := cell_of_blk HD5.out
                    have q2 : w5.cell? ⟨gt, 2, none⟩ = some (.slice A2 j.map.length c2) := cell_of_blk HD5.out
                    have q3 : w5.cell? ⟨gt, 3, none⟩ = some (.slice A3 j.combine.length c3) := cell_of_blk HD5.out
                    have q4 : w5.cell? ⟨gt, 4, none⟩ = some (.slice A4 j.reduce.length c4) := cell_of_blk HD5.out
                    have q5 : w5.cell? ⟨gt, 5, none⟩ = some (.int .i64 j.chunk) := cell_of_blk HD5.out
                    have q6 : w5.cell? ⟨gt, 6, none⟩ = some (.int .i64 j.window) := cell_of_blk HD5.out
                    have q7 : w5.cell? ⟨gt, 7, none⟩ = some (.int .i64 j.fuel) := cell_of_blk HD5.out
                    have q8 : w5.cell? ⟨gt, 8, none⟩ = some (.slice A5 j.marks.length c5) := cell_of_blk HD5.out
                    have q9 : w5.cell? ⟨gt, 9, none⟩ = some (.int .i64 4) := cell_of_blk HD5.out
                    have q10 : w5.cell? ⟨gt, 10, none⟩ = some (.int .i64 tr) := cell_of_blk HD5.out
                    have q11 : w5.cell? ⟨gt, 11, none⟩ = some (.int .i64 tmo) := cell_of_blk HD5.out
                    go_wp2_with fail
                    clear q0 q1 q2 q3 q4 q5 q6 q7 q8 q9 q10 q11
                    refine (cfgMay j 4 tr tmo A1 A2 A3 A4 A5 c1 c2 c3 c4 c5 w5 ⟨HJ5.out.s, HJ5.out.m, HJ5.out.c, HJ5.out.r, HJ5.out.k, HJ5.out.l1, HJ5.out.l2, HJ5.out.l3, HJ5.out.l4, HJ5.out.l5⟩ true ⟨fun _ => HYES.out, fun _ => rfl⟩).mono ?_
                    rintro e w6 ⟨rfl, hb6⟩
                    have HE6 := Aside0.mk ((hb6.block gs (blk_lt' HE5.out)).trans HE5.out)
                    have HJ6 := Aside0.mk (HJ5.out.below hb6)
                    have HB6 := Aside0.mk (two_andj _ _ _ HB5.out hb6)
                    have q0 : w6.cell? ⟨gs, 0, none⟩ = some (.slice A1 j.splits.length c1) := cell_of_blk HE6.out
                    have q1 : w6.cell? ⟨gs, 1, none⟩ = some (.int .i64 j.parts) := cell_of_blk HE6.out
                    have q2 : w6.cell? ⟨gs, 2, none⟩ = some (.slice A2 j.map.length c2) := cell_of_blk HE6.out
                    have q3 : w6.cell? ⟨gs, 3, none⟩ = some (.slice A3 j.combine.length c3) := cell_of_blk HE6.out
                    have q4 : w6.cell? ⟨gs, 4, none⟩ = some (.slice A4 j.reduce.length c4) := cell_of_blk HE6.out
                    have q5 : w6.cell? ⟨gs, 5, none⟩ = some (.int .i64 j.chunk) := cell_of_blk HE6.out
                    have q6 : w6.cell? ⟨gs, 6, none⟩ = some (.int .i64 j.window) := cell_of_blk HE6.out
                    have q7 : w6.cell? ⟨gs, 7, none⟩ = some (.int .i64 j.fuel) := cell_of_blk HE6.out
                    have q8 : w6.cell? ⟨gs, 8, none⟩ = some (.slice A5 j.marks.length c5) := cell_of_blk HE6.out
                    have q9 : w6.cell? ⟨gs, 9, none⟩ = some (.int .i64 5) := cell_of_blk HE6.out
                    have q10 : w6.cell? ⟨gs, 10, none⟩ = some (.int .i64 tr) := cell_of_blk HE6.out
                    have q11 : w6.cell? ⟨gs, 11, none⟩ = some (.int .i64 tmo) := cell_of_blk HE6.out
                    clear hb6
                    go_wp2_with fail
                    clear q0 q1 q2 q3 q4 q5 q6 q7 q8 q9 q10 q11
                    refine (cfgMay j 5 tr tmo A1 A2 A3 A4 A5 c1 c2 c3 c4 c5 w6 ⟨HJ6.out.s, HJ6.out.m, HJ6.out.c, HJ6.out.r, HJ6.out.k, HJ6.out.l1, HJ6.out.l2, HJ6.out.l3, HJ6.out.l4, HJ6.out.l5⟩ false ⟨(fun h => absurd h (by simp)), (fun h => absurd h HNO.out)⟩).mono ?_
                    rintro e w7 ⟨rfl, hb7⟩
                    have HB7 := Aside0.mk (two_andj _ _ _ HB6.out hb7)
                    clear hb7
                    go_wp2_with fail
                    refine (awake12 _).mono ?_
                    rintro e w8 ⟨rfl, hb8⟩
                    have HB8 := Aside0.mk (two_andj _ _ _ HB7.out hb8)
                    clear hb8
                    go_wp2_with fail
                    go_ret
                    exact ⟨rfl, HB8.out⟩
                  · have e5 : (lw == 5) = false := beq_eq_false_iff_ne.2 k5
                    by_cases k6 : lw = 6
                    · subst k6
                      clear k0 k1 k2 k3 k4 k5
                      have hcm := HCM.out
                      have hyes : CfgMay ⟨j, wk, 3, tmo⟩ := ⟨hcm.job, hcm.workers, ⟨by show (1 : Int) ≤ 3; omega, by show (3 : Int) ≤ 3; omega⟩, hcm.timeout⟩
                      have hno : ¬ CfgMay ⟨j, wk, 0, tmo⟩ := fun h => by have h1 := h.tries; have h2 : (1 : Int) ≤ 0 := h1.1; have h3 : (0 : Int) ≤ 3 := h1.2; omega
                      have HYES := Aside0.mk hyes
                      have HNO := Aside0.mk hno
                      obtain ⟨w5, hw5⟩ : ∃ w5, w5 = (wB.setCell ⟨gt, 10, none⟩ (.int .i64 3)).setCell ⟨gs, 10, none⟩ (.int .i64 0) := ⟨_, rfl⟩
                      have hD5 : w5.heap[gt]? = some (.cells ([.slice A1 j.splits.length c1, .int .i64 j.parts, .slice A2 j.map.length c2, .slice A3 j.combine.length c3, .slice A4 j.reduce.length c4, .int .i64 j.chunk, .int .i64 j.window, .int .i64 j.fuel, .slice A5 j.marks.length c5, .int .i64 wk, .int .i64 3, .int .i64 tmo] : List Value).toArray 28 (0, 0)) := by rw [hw5]; exact (setCell_other (g := gt) _ _ (by have := HGS.out; show gt ≠ gs; omega)).trans (setCell_blk HBkgt.out _)
                      have hE5 : w5.heap[gs]? = some (.cells ([.slice A1 j.splits.length c1, .int .i64 j.parts, .slice A2 j.map.length c2, .slice A3 j.combine.length c3, .slice A4 j.reduce.length c4, .int .i64 j.chunk, .int .i64 j.window, .int .i64 j.fuel, .slice A5 j.marks.length c5, .int .i64 wk, .int .i64 0, .int .i64 tmo] : List Value).toArray 28 (0, 0)) := by rw [hw5]; exact setCell_blk ((setCell_other (g := gs) _ _ (by have := HGS.out; show gs ≠ gt; omega)).trans HBkgs.out) _
                      have hc5 : Ch wB w5 (fun b => b = gt ∨ b = gs) := by rw [hw5]; exact ((Ch.refl wB _).setCell _ _ (.inl rfl)).setCell _ _ (.inr rfl)
                      have HB5 := Aside0.mk (Below.ch HBB.out hc5 HBB.out.size (fun b hb => by have := HGS.out; omega))
                      have HJ5 : Aside0 (JobC w5 j A1 A2 A3 A4 A5 c1 c2 c3 c4 c5) := ⟨HJ.out.below HB5.out⟩
                      have HD5 := Aside0.mk hD5
                      have HE5 := Aside0.mk hE5
                      have HW5 := Aside0.mk hw5
                      have hEs : (wB.setCell ⟨gt, 10, none⟩ (.int .i64 3)).heap[gs]? = some (.cells ([.slice A1 j.splits.length c1, .int .i64 j.parts, .slice A2 j.map.length c2, .slice A3 j.combine.length c3, .slice A4 j.reduce.length c4, .int .i64 j.chunk, .int .i64 j.window, .int .i64 j.fuel, .slice A5 j.marks.length c5, .int .i64 wk, .int .i64 tr, .int .i64 tmo] : List Value).toArray 28 (0, 0)) := (setCell_other (g := gs) _ _ (by have := HGS.out; show gs ≠ gt; omega)).trans HBkgs.out
                      have hcD : wB.cell? ⟨gt, 10, none⟩ = some (.int .i64 tr) := cell_of_blk HBkgt.out
                      have hfD : wB.frozen? ⟨gt, 10, none⟩ = false := frozen_of_blk HBkgt.out
                      have hcE : (wB.setCell ⟨gt, 10, none⟩ (.int .i64 3)).cell? ⟨gs, 10, none⟩ = some (.int .i64 tr) := cell_of_blk hEs
                      have hfE : (wB.setCell ⟨gt, 10, none⟩ (.int .i64 3)).frozen? ⟨gs, 10, none⟩ = false := frozen_of_blk hEs
                      have hfE0 : wB.frozen? ⟨gs, 10, none⟩ = false := frozen_of_blk HBkgs.out
                      clear hyes hno hw5 hD5 hE5 hc5 hcm hEs
                      go_upto_region 20 with (fail)
                      clear hcD hfD hcE hfE hfE0
                      rw [← HW5.out]
                      have q0 : w5.cell? ⟨gt, 0, none⟩ = some (.slice A1 j.splits.length c1) := cell_of_blk HD5.out
                      have q1 : w5.cell? ⟨gt, 1, none⟩ = some (.int .i64 j.parts) := cell_of_blk HD5.out
                      have q2 : w5.cell? ⟨gt, 2, none⟩ = some (.slice A2 j.map.length c2) := cell_of_blk HD5.out
                      have q3 : w5.cell? ⟨gt, 3, none⟩ = some (.slice A3 j.combine.length c3) := cell_of_blk HD5.out
                      have q4 : w5.cell? ⟨gt, 4, none⟩ = some (.slice A4 j.reduce.length c4) := cell_of_blk HD5.out
                      have q5 : w5.cell? ⟨gt, 5, none⟩ = some (.int .i64 j.chunk) := cell_of_blk HD5.out
                      have q6 : w5.cell? ⟨gt, 6, none⟩ = some (.int .i64 j.window) := cell_of_blk HD5.out
                      have q7 : w5.cell? ⟨gt, 7, none⟩ = some (.int .i64 j.fuel) := cell_of_blk HD5.out
                      have q8 : w5.cell? ⟨gt, 8, none⟩ = some (.slice A5 j.marks.length c5) := cell_of_blk HD5.out
                      have q9 : w5.cell? ⟨gt, 9, none⟩ = some (.int .i64 wk) := cell_of_blk HD5.out
                      have q10 : w5.cell? ⟨gt, 10, none⟩ = some (.int .i64 3) := cell_of_blk HD5.out
                      have q11 : w5.cell? ⟨gt, 11, none⟩ = some (.int .i64 tmo) := cell_of_blk HD5.out
                      go_wp2_with fail
                      clear q0 q1 q2 q3 q4 q5 q6 q7 q8 q9 q10 q11
                      refine (cfgMay j wk 3 tmo A1 A2 A3 A4 A5 c1 c2 c3 c4 c5 w5 ⟨HJ5.out.s, HJ5.out.m, HJ5.out.c, HJ5.out.r, HJ5.out.k, HJ5.out.l1, HJ5.out.l2, HJ5.out.l3, HJ5.out.l4, HJ5.out.l5⟩ true ⟨fun _ => HYES.out, fun _ => rfl⟩).mono ?_
                      rintro e w6 ⟨rfl, hb6⟩
                      have HE6 := Aside0.mk ((hb6.block gs (blk_lt' HE5.out)).trans HE5.out)
                      have HJ6 := Aside0.mk (HJ5.out.below hb6)
                      have HB6 := Aside0.mk (two_andj _ _ _ HB5.out hb6)
                      have q0 : w6.cell? ⟨gs, 0, none⟩ = some (.slice A1 j.splits.length c1) := cell_of_blk HE6.out
                      have q1 : w6.cell? ⟨gs, 1, none⟩ = some (.int .i64 j.parts) := cell_of_blk HE6.out
                      have q2 : w6.cell? ⟨gs, 2, none⟩ = some (.slice A2 j.map.length c2) := cell_of_blk HE6.out
                      have q3 : w6.cell? ⟨gs, 3, none⟩ = some (.slice A3 j.combine.length c3) := cell_of_blk HE6.out
                      have q4 : w6.cell? ⟨gs, 4, none⟩ = some (.slice A4 j.reduce.length c4) := cell_of_blk HE6.out
                      have q5 : w6.cell? ⟨gs, 5, none⟩ = some (.int .i64 j.chunk) := cell_of_blk HE6.out
                      have q6 : w6.cell? ⟨gs, 6, none⟩ = some (.int .i64 j.window) := cell_of_blk HE6.out
                      have q7 : w6.cell? ⟨gs, 7, none⟩ = some (.int .i64 j.fuel) := cell_of_blk HE6.out
                      have q8 : w6.cell? ⟨gs, 8, none⟩ = some (.slice A5 j.marks.length c5) := cell_of_blk HE6.out
                      have q9 : w6.cell? ⟨gs, 9, none⟩ = some (.int .i64 wk) := cell_of_blk HE6.out
                      have q10 : w6.cell? ⟨gs, 10, none⟩ = some (.int .i64 0) := cell_of_blk HE6.out
                      have q11 : w6.cell? ⟨gs, 11, none⟩ = some (.int .i64 tmo) := cell_of_blk HE6.out
                      clear hb6
                      go_wp2_with fail
                      clear q0 q1 q2 q3 q4 q5 q6 q7 q8 q9 q10 q11
                      refine (cfgMay j wk 0 tmo A1 A2 A3 A4 A5 c1 c2 c3 c4 c5 w6 ⟨HJ6.out.s, HJ6.out.m, HJ6.out.c, HJ6.out.r, HJ6.out.k, HJ6.out.l1, HJ6.out.l2, HJ6.out.l3, HJ6.out.l4, HJ6.out.l5⟩ false ⟨(fun h => absurd h (by simp)), (fun h => absurd h HNO.out)⟩).mono ?_
                      rintro e w7 ⟨rfl, hb7⟩
                      have HB7 := Aside0.mk (two_andj _ _ _ HB6.out hb7)
                      clear hb7
                      go_wp2_with fail
                      refine (awake12 _).mono ?_
                      rintro e w8 ⟨rfl, hb8⟩
                      have HB8 := Aside0.mk (two_andj _ _ _ HB7.out hb8)
                      clear hb8
                      go_wp2_with fail
                      go_ret
                      exact ⟨rfl, HB8.out⟩
                    · have e6 : (lw == 6) = false := beq_eq_false_iff_ne.2 k6
                      obtain rfl : lw = 7 := by omega
                      clear k0 e0 k1 e1 k2 e2 k3 e3 k4 e4 k5 e5 k6 e6
                      have hcm := HCM.out
                      have hyes : CfgMay ⟨j, wk, tr, 50⟩ := ⟨hcm.job, hcm.workers, hcm.tries, ⟨by show (1 : Int) ≤ 50; omega, by show (50 : Int) ≤ 50; omega⟩⟩
                      have hno : ¬ CfgMay ⟨j, wk, tr, 51⟩ := fun h => by have h1 := h.timeout; have h2 : (1 : Int) ≤ 51 := h1.1; have h3 : (51 : Int) ≤ 50 := h1.2; omega
                      have HYES := Aside0.mk hyes
                      have HNO := Aside0.mk hno
                      obtain ⟨w5, hw5⟩ : ∃ w5, w5 = (wB.setCell ⟨gt, 11, none⟩ (.int .i64 50)).setCell ⟨gs, 11, none⟩ (.int .i64 51) := ⟨_, rfl⟩
                      have hD5 : w5.heap[gt]? = some (.cells ([.slice A1 j.splits.length c1, .int .i64 j.parts, .slice A2 j.map.length c2, .slice A3 j.combine.length c3, .slice A4 j.reduce.length c4, .int .i64 j.chunk, .int .i64 j.window, .int .i64 j.fuel, .slice A5 j.marks.length c5, .int .i64 wk, .int .i64 tr, .int .i64 50] : List Value).toArray 28 (0, 0)) := by rw [hw5]; exact (setCell_other (g := gt) _ _ (by have := HGS.out; show gt ≠ gs; omega)).trans (setCell_blk HBkgt.out _)
                      have hE5 : w5.heap[gs]? = some (.cells ([.slice A1 j.splits.length c1, .int .i64 j.parts, .slice A2 j.map.length c2, .slice A3 j.combine.length c3, .slice A4 j.reduce.length c4, .int .i64 j.chunk, .int .i64 j.window, .int .i64 j.fuel, .slice A5 j.marks.length c5, .int .i64 wk, .int .i64 tr, .int .i64 51] : List Value).toArray 28 (0, 0)) := by rw [hw5]; exact setCell_blk ((setCell_other (g := gs) _ _ (by have := HGS.out; show gs ≠ gt; omega)).trans HBkgs.out) _
                      have hc5 : Ch wB w5 (fun b => b = gt ∨ b = gs) := by rw [hw5]; exact ((Ch.refl wB _).setCell _ _ (.inl rfl)).setCell _ _ (.inr rfl)
                      have HB5 := Aside0.mk (Below.ch HBB.out hc5 HBB.out.size (fun b hb => by have := HGS.out; omega))
                      have HJ5 : Aside0 (JobC w5 j A1 A2 A3 A4 A5 c1 c2 c3 c4 c5) := ⟨HJ.out.below HB5.out⟩
                      have HD5 := Aside0.mk hD5
                      have HE5 := Aside0.mk hE5
                      have HW5 := Aside0.mk hw5
                      have hEs : (wB.setCell ⟨gt, 11, none⟩ (.int .i64 50)).heap[gs]? = some (.cells ([.slice A1 j.splits.length c1, .int .i64 j.parts, .slice A2 j.map.length c2, .slice A3 j.combine.length c3, .slice A4 j.reduce.length c4, .int .i64 j.chunk, .int .i64 j.window, .int .i64 j.fuel, .slice A5 j.marks.length c5, .int .i64 wk, .int .i64 tr, .int .i64 tmo] : List Value).toArray 28 (0, 0)) := (setCell_other (g := gs) _ _ (by have := HGS.out; show gs ≠ gt; omega)).trans HBkgs.out
                      have hcD : wB.cell? ⟨gt, 11, none⟩ = some (.int .i64 tmo) := cell_of_blk HBkgt.out
                      have hfD : wB.frozen? ⟨gt, 11, none⟩ = false := frozen_of_blk HBkgt.out
                      have hcE : (wB.setCell ⟨gt, 11, none⟩ (.int .i64 50)).cell? ⟨gs, 11, none⟩ = some (.int .i64 tmo) := cell_of_blk hEs
                      have hfE : (wB.setCell ⟨gt, 11, none⟩ (.int .i64 50)).frozen? ⟨gs, 11, none⟩ = false := frozen_of_blk hEs
                      have hfE0 : wB.frozen? ⟨gs, 11, none⟩ = false := frozen_of_blk HBkgs.out
                      clear hyes hno hw5 hD5 hE5 hc5 hcm hEs
                      go_upto_region 20 with (fail)
                      clear hcD hfD hcE hfE hfE0
                      rw [← HW5.out]
                      have q0 : w5.cell? ⟨gt, 0, none⟩ = some (.slice A1 j.splits.length c1) := cell_of_blk HD5.out
                      have q1 : w5.cell? ⟨gt, 1, none⟩ = some (.int .i64 j.parts) := cell_of_blk HD5.out
                      have q2 : w5.cell? ⟨gt, 2, none⟩ = some (.slice A2 j.map.length c2) := cell_of_blk HD5.out
                      have q3 : w5.cell? ⟨gt, 3, none⟩ = some (.slice A3 j.combine.length c3) := cell_of_blk HD5.out
                      have q4 : w5.cell? ⟨gt, 4, none⟩ = some (.slice A4 j.reduce.length c4) := cell_of_blk HD5.out
                      have q5 : w5.cell? ⟨gt, 5, none⟩ = some (.int .i64 j.chunk) := cell_of_blk HD5.out
                      have q6 : w5.cell? ⟨gt, 6, none⟩ = some (.int .i64 j.window) := cell_of_blk HD5.out
                      have q7 : w5.cell? ⟨gt, 7, none⟩ = some (.int .i64 j.fuel) := cell_of_blk HD5.out
                      have q8 : w5.cell? ⟨gt, 8, none⟩ = some (.slice A5 j.marks.length c5) := cell_of_blk HD5.out
                      have q9 : w5.cell? ⟨gt, 9, none⟩ = some (.int .i64 wk) := cell_of_blk HD5.out
                      have q10 : w5.cell? ⟨gt, 10, none⟩ = some (.int .i64 tr) := cell_of_blk HD5.out
                      have q11 : w5.cell? ⟨gt, 11, none⟩ = some (.int .i64 50) := cell_of_blk HD5.out
                      go_wp2_with fail
                      clear q0 q1 q2 q3 q4 q5 q6 q7 q8 q9 q10 q11
                      refine (cfgMay j wk tr 50 A1 A2 A3 A4 A5 c1 c2 c3 c4 c5 w5 ⟨HJ5.out.s, HJ5.out.m, HJ5.out.c, HJ5.out.r, HJ5.out.k, HJ5.out.l1, HJ5.out.l2, HJ5.out.l3, HJ5.out.l4, HJ5.out.l5⟩ true ⟨fun _ => HYES.out, fun _ => rfl⟩).mono ?_
                      rintro e w6 ⟨rfl, hb6⟩
                      have HE6 := Aside0.mk ((hb6.block gs (blk_lt' HE5.out)).trans HE5.out)
                      have HJ6 := Aside0.mk (HJ5.out.below hb6)
                      have HB6 := Aside0.mk (two_andj _ _ _ HB5.out hb6)
                      have q0 : w6.cell? ⟨gs, 0, none⟩ = some (.slice A1 j.splits.length c1) := cell_of_blk HE6.out
                      have q1 : w6.cell? ⟨gs, 1, none⟩ = some (.int .i64 j.parts) := cell_of_blk HE6.out
                      have q2 : w6.cell? ⟨gs, 2, none⟩ = some (.slice A2 j.map.length c2) := cell_of_blk HE6.out
                      have q3 : w6.cell? ⟨gs, 3, none⟩ = some (.slice A3 j.combine.length c3) := cell_of_blk HE6.out
                      have q4 : w6.cell? ⟨gs, 4, none⟩ = some (.slice A4 j.reduce.length c4) := cell_of_blk HE6.out
                      have q5 : w6.cell? ⟨gs, 5, none⟩ = some (.int .i64 j.chunk) := cell_of_blk HE6.out
                      have q6 : w6.cell? ⟨gs, 6, none⟩ = some (.int .i64 j.window) := cell_of_blk HE6.out
                      have q7 : w6.cell? ⟨gs, 7, none⟩ = some (.int .i64 j.fuel) := cell_of_blk HE6.out
                      have q8 : w6.cell? ⟨gs, 8, none⟩ = some (.slice A5 j.marks.length c5) := cell_of_blk HE6.out
                      have q9 : w6.cell? ⟨gs, 9, none⟩ = some (.int .i64 wk) := cell_of_blk HE6.out
                      have q10 : w6.cell? ⟨gs, 10, none⟩ = some (.int .i64 tr) := cell_of_blk HE6.out
                      have q11 : w6.cell? ⟨gs, 11, none⟩ = some (.int .i64 51) := cell_of_blk HE6.out
                      clear hb6
                      go_wp2_with fail
                      clear q0 q1 q2 q3 q4 q5 q6 q7 q8 q9 q10 q11
                      refine (cfgMay j wk tr 51 A1 A2 A3 A4 A5 c1 c2 c3 c4 c5 w6 ⟨HJ6.out.s, HJ6.out.m, HJ6.out.c, HJ6.out.r, HJ6.out.k, HJ6.out.l1, HJ6.out.l2, HJ6.out.l3, HJ6.out.l4, HJ6.out.l5⟩ false ⟨(fun h => absurd h (by simp)), (fun h => absurd h HNO.out)⟩).mono ?_
                      rintro e w7 ⟨rfl, hb7⟩
                      have HB7 := Aside0.mk (two_andj _ _ _ HB6.out hb7)
                      clear hb7
                      go_wp2_with fail
                      refine (awake12 _).mono ?_
                      rintro e w8 ⟨rfl, hb8⟩
                      have HB8 := Aside0.mk (two_andj _ _ _ HB7.out hb8)
                      clear hb8
                      go_wp2_with fail
                      go_ret
                      exact ⟨rfl, HB8.out⟩
theorem jobEdges_walk (W : World) (x : CfgD) (cs : List Value) (hk : kCfg.K W x cs) (hg : GCfg x) (which : Int) (wwhich : (Lit.int .i64 which).wf = true) :
    Calls Try.prog 5 #[.agg cs.toArray, .int .i64 which] W fun e w' => e = .returned (.bool true) ∧ Below W.heap.size W w' := by
  obtain ⟨A1, A2, A3, A4, A5, c1, c2, c3, c4, c5, rfl, hJ⟩ := kCfg_open hk
  exact jobEdges_in x.job x.workers x.tries x.timeout A1 A2 A3 A4 A5 c1 c2 c3 c4 c5 W hJ hg.1.1 which
end Go.Proofs.Ytckjgfbfjjiikaa.K
