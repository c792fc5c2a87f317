/- The statement JobMay. -/
import Derived.Test.YtckjgfbfjjiikaaJ7
import Derived.Deep.RegionHeld3
set_option linter.unusedVariables false
set_option linter.unusedSimpArgs false
namespace Go.Proofs.Ytckjgfbfjjiikaa.K
open Go.RowKit Go.Proofs.YtckjgfbfjjiikaaW.PrintWords Go.Proofs.YtckjgfbfjjiikaaW.PrintLast Go.Proofs.YtckjgfbfjjiikaaW.PrintMore Go.Proofs.Ytckjgfbfjjiikaa.U Go.Proofs.Ytckjgfbfjjiikaa.T

theorem twelve {w : World} {g : Nat} {v0 v1 v2 v3 v4 v5 v6 v7 v8 v9 v10 v11 : Value} {t : TypeId} {fr : Nat × Nat} (h : w.heap[g]? = some (.cells ([v0, v1, v2, v3, v4, v5, v6, v7, v8, v9, v10, v11] : List Value).toArray t fr)) : w.cell? ⟨g, 0, none⟩ = some v0 ∧ w.cell? ⟨g, 1, none⟩ = some v1 ∧ w.cell? ⟨g, 2, none⟩ = some v2 ∧ w.cell? ⟨g, 3, none⟩ = some v3 ∧ w.cell? ⟨g, 4, none⟩ = some v4 ∧ w.cell? ⟨g, 5, none⟩ = some v5 ∧ w.cell? ⟨g, 6, none⟩ = some v6 ∧ w.cell? ⟨g, 7, none⟩ = some v7 ∧ w.cell? ⟨g, 8, none⟩ = some v8 ∧ w.cell? ⟨g, 9, none⟩ = some v9 ∧ w.cell? ⟨g, 10, none⟩ = some v10 ∧ w.cell? ⟨g, 11, none⟩ = some v11 :=
  ⟨cell_of_blk h, cell_of_blk h, cell_of_blk h, cell_of_blk h, cell_of_blk h, cell_of_blk h, cell_of_blk h, cell_of_blk h, cell_of_blk h, cell_of_blk h, cell_of_blk h, cell_of_blk h⟩
set_option maxRecDepth 100000 in
set_option maxHeartbeats 6400000 in
theorem jobMay_in (j : JobD) (wk tr tmo : Int) (A1 A2 A3 A4 A5 : Option Addr) (c1 c2 c3 c4 c5 : Nat) (w : World) (hj : JobC w j A1 A2 A3 A4 A5 c1 c2 c3 c4 c5) (hgs : ∀ l ∈ j.splits, ∀ x ∈ l, GPair x) :
    Calls Try.prog 3 #[.agg #[.slice A1 j.splits.length c1, .int .i64 j.parts, .slice A2 j.map.length c2, .slice A3 j.combine.length c3, .slice A4 j.reduce.length c4, .int .i64 j.chunk, .int .i64 j.window, .int .i64 j.fuel, .slice A5 j.marks.length c5, .int .i64 wk, .int .i64 tr, .int .i64 tmo]] w fun e w' => e = .returned (.bool true) ∧ Below w.heap.size w w' := by
  have HGS := Aside0.mk hgs
  clear hgs
  have HJ := Aside0.mk hj
  have hmx1 := Kd.C_max hj.s
  obtain ⟨wb, hwb⟩ : ∃ wb, wb = w.alloc (.cells #[.slice A1 j.splits.length c1, .int .i64 j.parts, .slice A2 j.map.length c2, .slice A3 j.combine.length c3, .slice A4 j.reduce.length c4, .int .i64 j.chunk, .int .i64 j.window, .int .i64 j.fuel, .slice A5 j.marks.length c5, .int .i64 wk, .int .i64 tr, .int .i64 tmo] 28) := ⟨_, rfl⟩
  obtain ⟨g, hg⟩ : ∃ g, g = w.heap.size := ⟨_, rfl⟩
  have hba := (Below.refl w.heap.size w).alloc (Nat.le_refl _) (.cells #[.slice A1 j.splits.length c1, .int .i64 j.parts, .slice A2 j.map.length c2, .slice A3 j.combine.length c3, .slice A4 j.reduce.length c4, .int .i64 j.chunk, .int .i64 j.window, .int .i64 j.fuel, .slice A5 j.marks.length c5, .int .i64 wk, .int .i64 tr, .int .i64 tmo] 28)
  rw [← hwb] at hba
  have hbk : wb.heap[g]? = some (.cells ([.slice A1 j.splits.length c1, .int .i64 j.parts, .slice A2 j.map.length c2, .slice A3 j.combine.length c3, .slice A4 j.reduce.length c4, .int .i64 j.chunk, .int .i64 j.window, .int .i64 j.fuel, .slice A5 j.marks.length c5, .int .i64 wk, .int .i64 tr, .int .i64 tmo]).toArray 28 (0, 0)) := by rw [hwb, hg]; exact alloc_at w _
  have HWB := Aside0.mk hwb
  have HG := Aside0.mk hg
  have HB := Aside0.mk hba
  have HBK := Aside0.mk hbk
  have hJb := HJ.out.below hba
  have HJb := Aside0.mk hJb
  have huc := Try.underlying28
  have huj := Try.underlying26
  clear hwb hg hba hbk hj hJb
  obtain ⟨rj, hrj⟩ := bool_of (JobMay j)
  obtain ⟨rc, hrc⟩ := bool_of (CfgMay ⟨j, wk, tr, tmo⟩)
  have HRJ := Aside0.mk hrj
  have HRC := Aside0.mk hrc
  clear hrj hrc
  go_enter Try.func3, Try.ntmps3
  go_upto_region 1 with (fail)
  rw [← HWB.out, ← HG.out]
  have q0 : wb.cell? ⟨g, 0, none⟩ = some (.slice A1 j.splits.length c1) := cell_of_blk HBK.out
  have q1 : wb.cell? ⟨g, 1, none⟩ = some (.int .i64 j.parts) := cell_of_blk HBK.out
  have q2 : wb.cell? ⟨g, 2, none⟩ = some (.slice A2 j.map.length c2) := cell_of_blk HBK.out
  have q3 : wb.cell? ⟨g, 3, none⟩ = some (.slice A3 j.combine.length c3) := cell_of_blk HBK.out
  have q4 : wb.cell? ⟨g, 4, none⟩ = some (.slice A4 j.reduce.length c4) := cell_of_blk HBK.out
  have q5 : wb.cell? ⟨g, 5, none⟩ = some (.int .i64 j.chunk) := cell_of_blk HBK.out
  have q6 : wb.cell? ⟨g, 6, none⟩ = some (.int .i64 j.window) := cell_of_blk HBK.out
  have q7 : wb.cell? ⟨g, 7, none⟩ = some (.int .i64 j.fuel) := cell_of_blk HBK.out
  have q8 : wb.cell? ⟨g, 8, none⟩ = some (.slice A5 j.marks.length c5) := cell_of_blk HBK.out
  go_wp2_with fail
  clear q0 q1 q2 q3 q4 q5 q6 q7 q8
  refine (greatJob j A1 A2 A3 A4 A5 c1 c2 c3 c4 c5 _ HJb.out HGS.out).mono ?_
  rintro e w1 ⟨⟨r, rfl, _⟩, hb1⟩
  have HB1 := Aside0.mk (two_andj _ _ _ HB.out hb1)
  have HJ1 := Aside0.mk (HJb.out.below hb1)
  have HBK1 := Aside0.mk ((hb1.block g (blk_lt' HBK.out)).trans HBK.out)
  clear hb1
  cases r with
  | true =>
    go_wp2_with fail
    refine (awake12 _).mono ?_
    rintro e w6 ⟨rfl, hb6⟩
    have HB6 := Aside0.mk (two_andj _ _ _ HB1.out hb6)
    clear hb6
    go_wp2_with fail
    go_ret
    exact ⟨rfl, HB6.out⟩
  | false =>
    have hd : Below w1.heap.size w1 w1.drew := below_drew1 (Below.refl _ _)
    have HB0 := Aside0.mk (two_andj _ _ _ HB1.out hd)
    have HJ0 := Aside0.mk (HJ1.out.below hd)
    have HBK0 := Aside0.mk ((hd.block g (blk_lt' HBK1.out)).trans HBK1.out)
    clear hd
    clear HB HJ HJb HBK HWB HG
    go_wp2_with fail
    cases rj with
    | true =>
      cases rc with
      | true =>
        go_region_held3 (fun w' => w'.cell? ⟨g, 0, none⟩ = some (.slice A1 j.splits.length c1) ∧ w'.cell? ⟨g, 1, none⟩ = some (.int .i64 j.parts) ∧ w'.cell? ⟨g, 2, none⟩ = some (.slice A2 j.map.length c2) ∧ w'.cell? ⟨g, 3, none⟩ = some (.slice A3 j.combine.length c3) ∧ w'.cell? ⟨g, 4, none⟩ = some (.slice A4 j.reduce.length c4) ∧ w'.cell? ⟨g, 5, none⟩ = some (.int .i64 j.chunk) ∧ w'.cell? ⟨g, 6, none⟩ = some (.int .i64 j.window) ∧ w'.cell? ⟨g, 7, none⟩ = some (.int .i64 j.fuel) ∧ w'.cell? ⟨g, 8, none⟩ = some (.slice A5 j.marks.length c5) ∧ w'.cell? ⟨g, 9, none⟩ = some (.int .i64 wk) ∧ w'.cell? ⟨g, 10, none⟩ = some (.int .i64 tr) ∧ w'.cell? ⟨g, 11, none⟩ = some (.int .i64 tmo)) (first | exact twelve HBK0.out | exact twelve HBKa.out | exact twelve HBKb.out | exact twelve HBKc.out | exact twelve HBKd.out | exact twelve HBKe.out | exact twelve HBKf.out | exact twelve HBKh.out)
           (first
            | (go_at_call 16; refine (jobMay j A1 A2 A3 A4 A5 c1 c2 c3 c4 c5 _ HJb.out true (by simpa using HRJ.out)).mono ?_; rintro e wc ⟨rfl, hbz⟩; have HBc := Aside0.mk (two_andj _ _ _ HBb.out hbz); have HJc := Aside0.mk (HJb.out.below hbz); have HBKc := Aside0.mk ((hbz.block g (blk_lt' HBKb.out)).trans HBKb.out); clear hbz)
            | (go_at_call 16; refine (jobMay j A1 A2 A3 A4 A5 c1 c2 c3 c4 c5 _ HJ0.out true (by simpa using HRJ.out)).mono ?_; rintro e wa ⟨rfl, hbz⟩; have HBa := Aside0.mk (two_andj _ _ _ HB0.out hbz); have HJa := Aside0.mk (HJ0.out.below hbz); have HBKa := Aside0.mk ((hbz.block g (blk_lt' HBK0.out)).trans HBK0.out); clear hbz)
            | (go_at_call 17; refine (refJobMay j A1 A2 A3 A4 A5 c1 c2 c3 c4 c5 _ HJa.out true (by simpa using HRJ.out)).mono ?_; rintro e wc ⟨rfl, hbz⟩; have HBc := Aside0.mk (two_andj _ _ _ HBa.out hbz); have HJc := Aside0.mk (HJa.out.below hbz); have HBKc := Aside0.mk ((hbz.block g (blk_lt' HBKa.out)).trans HBKa.out); clear hbz)
            | (go_at_call 17; refine (refJobMay j A1 A2 A3 A4 A5 c1 c2 c3 c4 c5 _ HJ0.out true (by simpa using HRJ.out)).mono ?_; rintro e wz ⟨rfl, hbz⟩; have HBb := Aside0.mk (two_andj _ _ _ HB0.out hbz); have HJb := Aside0.mk (HJ0.out.below hbz); have HBKb := Aside0.mk ((hbz.block g (blk_lt' HBK0.out)).trans HBK0.out); clear hbz)
            | (go_at_call 18; refine (cfgMay j wk tr tmo A1 A2 A3 A4 A5 c1 c2 c3 c4 c5 _ HJe.out true (by simpa using HRC.out)).mono ?_; rintro e wf ⟨rfl, hbz⟩; have HBf := Aside0.mk (two_andj _ _ _ HBe.out hbz); have HJf := Aside0.mk (HJe.out.below hbz); have HBKf := Aside0.mk ((hbz.block g (blk_lt' HBKe.out)).trans HBKe.out); clear hbz)
            | (go_at_call 18; refine (cfgMay j wk tr tmo A1 A2 A3 A4 A5 c1 c2 c3 c4 c5 _ HJc.out true (by simpa using HRC.out)).mono ?_; rintro e wd ⟨rfl, hbz⟩; have HBd := Aside0.mk (two_andj _ _ _ HBc.out hbz); have HJd := Aside0.mk (HJc.out.below hbz); have HBKd := Aside0.mk ((hbz.block g (blk_lt' HBKc.out)).trans HBKc.out); clear hbz)
            | (go_at_call 19; refine (refCfgMay j wk tr tmo A1 A2 A3 A4 A5 c1 c2 c3 c4 c5 _ HJd.out true (by simpa using HRC.out)).mono ?_; rintro e wf ⟨rfl, hbz⟩; have HBf := Aside0.mk (two_andj _ _ _ HBd.out hbz); have HJf := Aside0.mk (HJd.out.below hbz); have HBKf := Aside0.mk ((hbz.block g (blk_lt' HBKd.out)).trans HBKd.out); clear hbz)
            | (go_at_call 19; refine (refCfgMay j wk tr tmo A1 A2 A3 A4 A5 c1 c2 c3 c4 c5 _ HJc.out true (by simpa using HRC.out)).mono ?_; rintro e we ⟨rfl, hbz⟩; have HBe := Aside0.mk (two_andj _ _ _ HBc.out hbz); have HJe := Aside0.mk (HJc.out.below hbz); have HBKe := Aside0.mk ((hbz.block g (blk_lt' HBKc.out)).trans HBKc.out); clear hbz)
            | (go_at_call 15; refine (awake12 _).mono ?_; rintro e wh ⟨rfl, hbz⟩; have HBh := Aside0.mk (two_andj _ _ _ HBf.out hbz); have HJh := Aside0.mk (HJf.out.below hbz); have HBKh := Aside0.mk ((hbz.block g (blk_lt' HBKf.out)).trans HBKf.out); clear hbz))
        all_goals
          go_wp2_with fail
          go_ret
          exact ⟨rfl, HBh.out⟩
      | false =>
        go_region_held3 (fun w' => w'.cell? ⟨g, 0, none⟩ = some (.slice A1 j.splits.length c1) ∧ w'.cell? ⟨g, 1, none⟩ = some (.int .i64 j.parts) ∧ w'.cell? ⟨g, 2, none⟩ = some (.slice A2 j.map.length c2) ∧ w'.cell? ⟨g, 3, none⟩ = some (.slice A3 j.combine.length c3) ∧ w'.cell? ⟨g, 4, none⟩ = some (.slice A4 j.reduce.length c4) ∧ w'.cell? ⟨g, 5, none⟩ = some (.int .i64 j.chunk) ∧ w'.cell? ⟨g, 6, none⟩ = some (.int .i64 j.window) ∧ w'.cell? ⟨g, 7, none⟩ = some (.int .i64 j.fuel) ∧ w'.cell? ⟨g, 8, none⟩ = some (.slice A5 j.marks.length c5) ∧ w'.cell? ⟨g, 9, none⟩ = some (.int .i64 wk) ∧ w'.cell? ⟨g, 10, none⟩ = some (.int .i64 tr) ∧ w'.cell? ⟨g, 11, none⟩ = some (.int .i64 tmo)) (first | exact twelve HBK0.out | exact twelve HBKa.out | exact twelve HBKb.out | exact twelve HBKc.out | exact twelve HBKd.out | exact twelve HBKe.out | exact twelve HBKf.out | exact twelve HBKh.out)
           (first
            | (go_at_call 16; refine (jobMay j A1 A2 A3 A4 A5 c1 c2 c3 c4 c5 _ HJb.out true (by simpa using HRJ.out)).mono ?_; rintro e wc ⟨rfl, hbz⟩; have HBc := Aside0.mk (two_andj _ _ _ HBb.out hbz); have HJc := Aside0.mk (HJb.out.below hbz); have HBKc := Aside0.mk ((hbz.block g (blk_lt' HBKb.out)).trans HBKb.out); clear hbz)
            | (go_at_call 16; refine (jobMay j A1 A2 A3 A4 A5 c1 c2 c3 c4 c5 _ HJ0.out true (by simpa using HRJ.out)).mono ?_; rintro e wa ⟨rfl, hbz⟩; have HBa := Aside0.mk (two_andj _ _ _ HB0.out hbz); have HJa := Aside0.mk (HJ0.out.below hbz); have HBKa := Aside0.mk ((hbz.block g (blk_lt' HBK0.out)).trans HBK0.out); clear hbz)
            | (go_at_call 17; refine (refJobMay j A1 A2 A3 A4 A5 c1 c2 c3 c4 c5 _ HJa.out true (by simpa using HRJ.out)).mono ?_; rintro e wc ⟨rfl, hbz⟩; have HBc := Aside0.mk (two_andj _ _ _ HBa.out hbz); have HJc := Aside0.mk (HJa.out.below hbz); have HBKc := Aside0.mk ((hbz.block g (blk_lt' HBKa.out)).trans HBKa.out); clear hbz)
            | (go_at_call 17; refine (refJobMay j A1 A2 A3 A4 A5 c1 c2 c3 c4 c5 _ HJ0.out true (by simpa using HRJ.out)).mono ?_; rintro e wz ⟨rfl, hbz⟩; have HBb := Aside0.mk (two_andj _ _ _ HB0.out hbz); have HJb := Aside0.mk (HJ0.out.below hbz); have HBKb := Aside0.mk ((hbz.block g (blk_lt' HBK0.out)).trans HBK0.out); clear hbz)
            | (go_at_call 18; refine (cfgMay j wk tr tmo A1 A2 A3 A4 A5 c1 c2 c3 c4 c5 _ HJe.out false (by simpa using HRC.out)).mono ?_; rintro e wf ⟨rfl, hbz⟩; have HBf := Aside0.mk (two_andj _ _ _ HBe.out hbz); have HJf := Aside0.mk (HJe.out.below hbz); have HBKf := Aside0.mk ((hbz.block g (blk_lt' HBKe.out)).trans HBKe.out); clear hbz)
            | (go_at_call 18; refine (cfgMay j wk tr tmo A1 A2 A3 A4 A5 c1 c2 c3 c4 c5 _ HJc.out false (by simpa using HRC.out)).mono ?_; rintro e wd ⟨rfl, hbz⟩; have HBd := Aside0.mk (two_andj _ _ _ HBc.out hbz); have HJd := Aside0.mk (HJc.out.below hbz); have HBKd := Aside0.mk ((hbz.block g (blk_lt' HBKc.out)).trans HBKc.out); clear hbz)
            | (go_at_call 19; refine (refCfgMay j wk tr tmo A1 A2 A3 A4 A5 c1 c2 c3 c4 c5 _ HJd.out false (by simpa using HRC.out)).mono ?_; rintro e wf ⟨rfl, hbz⟩; have HBf := Aside0.mk (two_andj _ _ _ HBd.out hbz); have HJf := Aside0.mk (HJd.out.below hbz); have HBKf := Aside0.mk ((hbz.block g (blk_lt' HBKd.out)).trans HBKd.out); clear hbz)
            | (go_at_call 19; refine (refCfgMay j wk tr tmo A1 A2 A3 A4 A5 c1 c2 c3 c4 c5 _ HJc.out false (by simpa using HRC.out)).mono ?_; rintro e we ⟨rfl, hbz⟩; have HBe := Aside0.mk (two_andj _ _ _ HBc.out hbz); have HJe := Aside0.mk (HJc.out.below hbz); have HBKe := Aside0.mk ((hbz.block g (blk_lt' HBKc.out)).trans HBKc.out); clear hbz)
            | (go_at_call 15; refine (awake12 _).mono ?_; rintro e wh ⟨rfl, hbz⟩; have HBh := Aside0.mk (two_andj _ _ _ HBf.out hbz); have HJh := Aside0.mk (HJf.out.below hbz); have HBKh := Aside0.mk ((hbz.block g (blk_lt' HBKf.out)).trans HBKf.out); clear hbz))
        all_goals
          go_wp2_with fail
          go_ret
          exact ⟨rfl, HBh.out⟩
    | false =>
      cases rc with
      | true =>
        go_region_held3 (fun w' => w'.cell? ⟨g, 0, none⟩ = some (.slice A1 j.splits.length c1) ∧ w'.cell? ⟨g, 1, none⟩ = some (.int .i64 j.parts) ∧ w'.cell? ⟨g, 2, none⟩ = some (.slice A2 j.map.length c2) ∧ w'.cell? ⟨g, 3, none⟩ = some (.slice A3 j.combine.length c3) ∧ w'.cell? ⟨g, 4, none⟩ = some (.slice A4 j.reduce.length c4) ∧ w'.cell? ⟨g, 5, none⟩ = some (.int .i64 j.chunk) ∧ w'.cell? ⟨g, 6, none⟩ = some (.int .i64 j.window) ∧ w'.cell? ⟨g, 7, none⟩ = some (.int .i64 j.fuel) ∧ w'.cell? ⟨g, 8, none⟩ = some (.slice A5 j.marks.length c5) ∧ w'.cell? ⟨g, 9, none⟩ = some (.int .i64 wk) ∧ w'.cell? ⟨g, 10, none⟩ = some (.int .i64 tr) ∧ w'.cell? ⟨g, 11, none⟩ = some (.int .i64 tmo)) (first | exact twelve HBK0.out | exact twelve HBKa.out | exact twelve HBKb.out | exact twelve HBKc.out | exact twelve HBKd.out | exact twelve HBKe.out | exact twelve HBKf.out | exact twelve HBKh.out)
           (first
            | (go_at_call 16; refine (jobMay j A1 A2 A3 A4 A5 c1 c2 c3 c4 c5 _ HJb.out false (by simpa using HRJ.out)).mono ?_; rintro e wc ⟨rfl, hbz⟩; have HBc := Aside0.mk (two_andj _ _ _ HBb.out hbz); have HJc := Aside0.mk (HJb.out.below hbz); have HBKc := Aside0.mk ((hbz.block g (blk_lt' HBKb.out)).trans HBKb.out); clear hbz)
            | (go_at_call 16; refine (jobMay j A1 A2 A3 A4 A5 c1 c2 c3 c4 c5 _ HJ0.out false (by simpa using HRJ.out)).mono ?_; rintro e wa ⟨rfl, hbz⟩; have HBa := Aside0.mk (two_andj _ _ _ HB0.out hbz); have HJa := Aside0.mk (HJ0.out.below hbz); have HBKa := Aside0.mk ((hbz.block g (blk_lt' HBK0.out)).trans HBK0.out); clear hbz)
            | (go_at_call 17; refine (refJobMay j A1 A2 A3 A4 A5 c1 c2 c3 c4 c5 _ HJa.out false (by simpa using HRJ.out)).mono ?_; rintro e wc ⟨rfl, hbz⟩; have HBc := Aside0.mk (two_andj _ _ _ HBa.out hbz); have HJc := Aside0.mk (HJa.out.below hbz); have HBKc := Aside0.mk ((hbz.block g (blk_lt' HBKa.out)).trans HBKa.out); clear hbz)
            | (go_at_call 17; refine (refJobMay j A1 A2 A3 A4 A5 c1 c2 c3 c4 c5 _ HJ0.out false (by simpa using HRJ.out)).mono ?_; rintro e wz ⟨rfl, hbz⟩; have HBb := Aside0.mk (two_andj _ _ _ HB0.out hbz); have HJb := Aside0.mk (HJ0.out.below hbz); have HBKb := Aside0.mk ((hbz.block g (blk_lt' HBK0.out)).trans HBK0.out); clear hbz)
            | (go_at_call 18; refine (cfgMay j wk tr tmo A1 A2 A3 A4 A5 c1 c2 c3 c4 c5 _ HJe.out true (by simpa using HRC.out)).mono ?_; rintro e wf ⟨rfl, hbz⟩; have HBf := Aside0.mk (two_andj _ _ _ HBe.out hbz); have HJf := Aside0.mk (HJe.out.below hbz); have HBKf := Aside0.mk ((hbz.block g (blk_lt' HBKe.out)).trans HBKe.out); clear hbz)
            | (go_at_call 18; refine (cfgMay j wk tr tmo A1 A2 A3 A4 A5 c1 c2 c3 c4 c5 _ HJc.out true (by simpa using HRC.out)).mono ?_; rintro e wd ⟨rfl, hbz⟩; have HBd := Aside0.mk (two_andj _ _ _ HBc.out hbz); have HJd := Aside0.mk (HJc.out.below hbz); have HBKd := Aside0.mk ((hbz.block g (blk_lt' HBKc.out)).trans HBKc.out); clear hbz)
            | (go_at_call 19; refine (refCfgMay j wk tr tmo A1 A2 A3 A4 A5 c1 c2 c3 c4 c5 _ HJd.out true (by simpa using HRC.out)).mono ?_; rintro e wf ⟨rfl, hbz⟩; have HBf := Aside0.mk (two_andj _ _ _ HBd.out hbz); have HJf := Aside0.mk (HJd.out.below hbz); have HBKf := Aside0.mk ((hbz.block g (blk_lt' HBKd.out)).trans HBKd.out); clear hbz)
            | (go_at_call 19; refine (refCfgMay j wk tr tmo A1 A2 A3 A4 A5 c1 c2 c3 c4 c5 _ HJc.out true (by simpa using HRC.out)).mono ?_; rintro e we ⟨rfl, hbz⟩; have HBe := Aside0.mk (two_andj _ _ _ HBc.out hbz); have HJe := Aside0.mk (HJc.out.below hbz); have HBKe := Aside0.mk ((hbz.block g (blk_lt' HBKc.out)).trans HBKc.out); clear hbz)
            | (go_at_call 15; refine (awake12 _).mono ?_; rintro e wh ⟨rfl, hbz⟩; have HBh := Aside0.mk (two_andj _ _ _ HBf.out hbz); have HJh := Aside0.mk (HJf.out.below hbz); have HBKh := Aside0.mk ((hbz.block g (blk_lt' HBKf.out)).trans HBKf.out); clear hbz))
        all_goals
          go_wp2_with fail
          go_ret
          exact ⟨rfl, HBh.out⟩
      | false =>
        go_region_held3 (fun w' => w'.cell? ⟨g, 0, none⟩ = some (.slice A1 j.splits.length c1) ∧ w'.cell? ⟨g, 1, none⟩ = some (.int .i64 j.parts) ∧ w'.cell? ⟨g, 2, none⟩ = some (.slice A2 j.map.length c2) ∧ w'.cell? ⟨g, 3, none⟩ = some (.slice A3 j.combine.length c3) ∧ w'.cell? ⟨g, 4, none⟩ = some (.slice A4 j.reduce.length c4) ∧ w'.cell? ⟨g, 5, none⟩ = some (.int .i64 j.chunk) ∧ w'.cell? ⟨g, 6, none⟩ = some (.int .i64 j.window) ∧ w'.cell? ⟨g, 7, none⟩ = some (.int .i64 j.fuel) ∧ w'.cell? ⟨g, 8, none⟩ = some (.slice A5 j.marks.length c5) ∧ w'.cell? ⟨g, 9, none⟩ = some (.int .i64 wk) ∧ w'.cell? ⟨g, 10, none⟩ = some (.int .i64 tr) ∧ w'.cell? ⟨g, 11, none⟩ = some (.int .i64 tmo)) (first | exact twelve HBK0.out | exact twelve HBKa.out | exact twelve HBKb.out | exact twelve HBKc.out | exact twelve HBKd.out | exact twelve HBKe.out | exact twelve HBKf.out | exact twelve HBKh.out)
           (first
            | (go_at_call 16; refine (jobMay j A1 A2 A3 A4 A5 c1 c2 c3 c4 c5 _ HJb.out false (by simpa using HRJ.out)).mono ?_; rintro e wc ⟨rfl, hbz⟩; have HBc := Aside0.mk (two_andj _ _ _ HBb.out hbz); have HJc := Aside0.mk (HJb.out.below hbz); have HBKc := Aside0.mk ((hbz.block g (blk_lt' HBKb.out)).trans HBKb.out); clear hbz)
            | (go_at_call 16; refine (jobMay j A1 A2 A3 A4 A5 c1 c2 c3 c4 c5 _ HJ0.out false (by simpa using HRJ.out)).mono ?_; rintro e wa ⟨rfl, hbz⟩; have HBa := Aside0.mk (two_andj _ _ _ HB0.out hbz); have HJa := Aside0.mk (HJ0.out.below hbz); have HBKa := Aside0.mk ((hbz.block g (blk_lt' HBK0.out)).trans HBK0.out); clear hbz)
            | (go_at_call 17; refine (refJobMay j A1 A2 A3 A4 A5 c1 c2 c3 c4 c5 _ HJa.out false (by simpa using HRJ.out)).mono ?_; rintro e wc ⟨rfl, hbz⟩; have HBc := Aside0.mk (two_andj _ _ _ HBa.out hbz); have HJc := Aside0.mk (HJa.out.below hbz); have HBKc := Aside0.mk ((hbz.block g (blk_lt' HBKa.out)).trans HBKa.out); clear hbz)
            | (go_at_call 17; refine (refJobMay j A1 A2 A3 A4 A5 c1 c2 c3 c4 c5 _ HJ0.out false (by simpa using HRJ.out)).mono ?_; rintro e wz ⟨rfl, hbz⟩; have HBb := Aside0.mk (two_andj _ _ _ HB0.out hbz); have HJb := Aside0.mk (HJ0.out.below hbz); have HBKb := Aside0.mk ((hbz.block g (blk_lt' HBK0.out)).trans HBK0.out); clear hbz)
            | (go_at_call 18; refine (cfgMay j wk tr tmo A1 A2 A3 A4 A5 c1 c2 c3 c4 c5 _ HJe.out false (by simpa using HRC.out)).mono ?_; rintro e wf ⟨rfl, hbz⟩; have HBf := Aside0.mk (two_andj _ _ _ HBe.out hbz); have HJf := Aside0.mk (HJe.out.below hbz); have HBKf := Aside0.mk ((hbz.block g (blk_lt' HBKe.out)).trans HBKe.out); clear hbz)
            | (go_at_call 18; refine (cfgMay j wk tr tmo A1 A2 A3 A4 A5 c1 c2 c3 c4 c5 _ HJc.out false (by simpa using HRC.out)).mono ?_; rintro e wd ⟨rfl, hbz⟩; have HBd := Aside0.mk (two_andj _ _ _ HBc.out hbz); have HJd := Aside0.mk (HJc.out.below hbz); have HBKd := Aside0.mk ((hbz.block g (blk_lt' HBKc.out)).trans HBKc.out); clear hbz)
            | (go_at_call 19; refine (refCfgMay j wk tr tmo A1 A2 A3 A4 A5 c1 c2 c3 c4 c5 _ HJd.out false (by simpa using HRC.out)).mono ?_; rintro e wf ⟨rfl, hbz⟩; have HBf := Aside0.mk (two_andj _ _ _ HBd.out hbz); have HJf := Aside0.mk (HJd.out.below hbz); have HBKf := Aside0.mk ((hbz.block g (blk_lt' HBKd.out)).trans HBKd.out); clear hbz)
            | (go_at_call 19; refine (refCfgMay j wk tr tmo A1 A2 A3 A4 A5 c1 c2 c3 c4 c5 _ HJc.out false (by simpa using HRC.out)).mono ?_; rintro e we ⟨rfl, hbz⟩; have HBe := Aside0.mk (two_andj _ _ _ HBc.out hbz); have HJe := Aside0.mk (HJc.out.below hbz); have HBKe := Aside0.mk ((hbz.block g (blk_lt' HBKc.out)).trans HBKc.out); clear hbz)
            | (go_at_call 15; refine (awake12 _).mono ?_; rintro e wh ⟨rfl, hbz⟩; have HBh := Aside0.mk (two_andj _ _ _ HBf.out hbz); have HJh := Aside0.mk (HJf.out.below hbz); have HBKh := Aside0.mk ((hbz.block g (blk_lt' HBKf.out)).trans HBKf.out); clear hbz))
        all_goals
          go_wp2_with fail
          go_ret
          exact ⟨rfl, HBh.out⟩
theorem jobMay_walk (W : World) (x : CfgD) (cs : List Value) (hk : kCfg.K W x cs) (hg : GCfg x) :
    Calls Try.prog 3 #[.agg cs.toArray] W fun e w' => e = .returned (.bool true) ∧ Below W.heap.size W w' := by
  obtain ⟨A1, A2, A3, A4, A5, c1, c2, c3, c4, c5, rfl, hJ⟩ := kCfg_open hk
  exact jobMay_in x.job x.workers x.tries x.timeout A1 A2 A3 A4 A5 c1 c2 c3 c4 c5 W hJ hg.1.1
end Go.Proofs.Ytckjgfbfjjiikaa.K
