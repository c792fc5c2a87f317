/- Configurations. -/
import Derived.Test.YtbnhhlahbhjogaaJ5
set_option linter.unusedVariables false
set_option linter.unusedSimpArgs false
namespace Go.Proofs.Ytbnhhlahbhjogaa.K
open Go.RowKit Go.Proofs.YtbnhhlahbhjogaaW.PrintWords Go.Proofs.YtbnhhlahbhjogaaW.PrintLast Go.Proofs.YtbnhhlahbhjogaaW.PrintMore Go.Proofs.Ytbnhhlahbhjogaa.U Go.Proofs.Ytbnhhlahbhjogaa.T

set_option maxRecDepth 100000 in
set_option maxHeartbeats 1600000 in
theorem cfgMay (j : JobD) (wk tr tmo : Int) (A1 A2 A3 A4 A5 : Option Addr) (c1 c2 c3 c4 c5 : Nat) (w : World) (hj : JobC w j A1 A2 A3 A4 A5 c1 c2 c3 c4 c5) (r : Bool) (hr : r = true ↔ CfgMay ⟨j, wk, tr, tmo⟩) :
    Calls Try.prog 10 #[.agg #[.slice A1 j.splits.length c1, .int .i64 j.parts, .slice A2 j.map.length c2, .slice A3 j.combine.length c3, .slice A4 j.reduce.length c4, .int .i64 j.chunk, .int .i64 j.window, .int .i64 j.fuel, .slice A5 j.marks.length c5, .int .i64 wk, .int .i64 tr, .int .i64 tmo]] w fun e w' => e = .returned (.bool r) ∧ Below w.heap.size w w' := by
  have HR := Aside0.mk hr
  clear hr
  have HJ := Aside0.mk hj
  have hmx1 := Kd.C_max hj.s
  obtain ⟨wb, hwb⟩ : ∃ wb, wb = w.alloc (.cells #[.slice A1 j.splits.length c1, .int .i64 j.parts, .slice A2 j.map.length c2, .slice A3 j.combine.length c3, .slice A4 j.reduce.length c4, .int .i64 j.chunk, .int .i64 j.window, .int .i64 j.fuel, .slice A5 j.marks.length c5, .int .i64 wk, .int .i64 tr, .int .i64 tmo] 28) := ⟨_, rfl⟩
  obtain ⟨g, hg⟩ : ∃ g, g = w.heap.size := ⟨_, rfl⟩
  have hba := (Below.refl w.heap.size w).alloc (Nat.le_refl _) (.cells #[.slice A1 j.splits.length c1, .int .i64 j.parts, .slice A2 j.map.length c2, .slice A3 j.combine.length c3, .slice A4 j.reduce.length c4, .int .i64 j.chunk, .int .i64 j.window, .int .i64 j.fuel, .slice A5 j.marks.length c5, .int .i64 wk, .int .i64 tr, .int .i64 tmo] 28)
  rw [← hwb] at hba
  have hbk : wb.heap[g]? = some (.cells ([.slice A1 j.splits.length c1, .int .i64 j.parts, .slice A2 j.map.length c2, .slice A3 j.combine.length c3, .slice A4 j.reduce.length c4, .int .i64 j.chunk, .int .i64 j.window, .int .i64 j.fuel, .slice A5 j.marks.length c5, .int .i64 wk, .int .i64 tr, .int .i64 tmo]).toArray 28 (0, 0)) := by rw [hwb, hg]; exact alloc_at w _
  have HWB := Aside0.mk hwb
  have HG := Aside0.mk hg
  have HB := Aside0.mk hba
  have HBK := Aside0.mk hbk
  have hJb := HJ.out.below hba
  have HJb := Aside0.mk hJb
  have huc := Try.underlying28
  have huj := Try.underlying26
  clear hwb hg hba hbk hj hJb
  obtain ⟨r1, hr1⟩ := bool_of (JobMay j)
  have HR1 := Aside0.mk hr1
  clear hr1
  go_enter Try.func10, Try.ntmps10
  go_upto_region 1 with (fail)
  rw [← HWB.out, ← HG.out]
  have q0 : wb.cell? ⟨g, 0, none⟩ = some (.slice A1 j.splits.length c1) := cell_of_blk HBK.out
  have q1 : wb.cell? ⟨g, 1, none⟩ = some (.int .i64 j.parts) := cell_of_blk HBK.out
  have q2 : wb.cell? ⟨g, 2, none⟩ = some (.slice A2 j.map.length c2) := cell_of_blk HBK.out
  have q3 : wb.cell? ⟨g, 3, none⟩ = some (.slice A3 j.combine.length c3) := cell_of_blk HBK.out
  have q4 : wb.cell? ⟨g, 4, none⟩ = some (.slice A4 j.reduce.length c4) := cell_of_blk HBK.out
  have q5 : wb.cell? ⟨g, 5, none⟩ = some (.int .i64 j.chunk) := cell_of_blk HBK.out
  have q6 : wb.cell? ⟨g, 6, none⟩ = some (.int .i64 j.window) := cell_of_blk HBK.out
  have q7 : wb.cell? ⟨g, 7, none⟩ = some (.int .i64 j.fuel) := cell_of_blk HBK.out
  have q8 : wb.cell? ⟨g, 8, none⟩ = some (.slice A5 j.marks.length c5) := cell_of_blk HBK.out
  go_wp2_with fail
  clear q0 q1 q2 q3 q4 q5 q6 q7 q8
  refine (jobMay j A1 A2 A3 A4 A5 c1 c2 c3 c4 c5 _ HJb.out r1 HR1.out).mono ?_
  rintro e w1 ⟨rfl, hb1⟩
  have hbk1 := (hb1.block g (blk_lt' HBK.out)).trans HBK.out
  have HB1 := Aside0.mk (two_andj _ _ _ HB.out hb1)
  have z9 : w1.cell? ⟨g, 9, none⟩ = some (.int .i64 wk) := cell_of_blk hbk1
  have z10 : w1.cell? ⟨g, 10, none⟩ = some (.int .i64 tr) := cell_of_blk hbk1
  have z11 : w1.cell? ⟨g, 11, none⟩ = some (.int .i64 tmo) := cell_of_blk hbk1
  clear hb1 hbk1
  cases r1 with
  | false =>
    go_wp2_with fail
    go_ret
    exact ⟨by rw [bool_no HR.out (fun h => absurd (HR1.out.2 h.job) (by simp))]; rfl, HB1.out⟩
  | true =>
    go_wp2_with fail
    refine (within wk 1 4 _).mono ?_
    rintro e w1 ⟨rfl, rfl⟩
    by_cases h1 : 1 ≤ wk ∧ wk ≤ 4
    · rw [decide_eq_true h1]
      have H1 := Aside0.mk h1
      clear h1
      go_wp2_with fail
      refine (within tr 1 3 _).mono ?_
      rintro e w1 ⟨rfl, rfl⟩
      by_cases h2 : 1 ≤ tr ∧ tr ≤ 3
      · rw [decide_eq_true h2]
        have H2 := Aside0.mk h2
        clear h2
        go_wp2_with fail
        refine (within tmo 1 50 _).mono ?_
        rintro e w1 ⟨rfl, rfl⟩
        by_cases h3 : 1 ≤ tmo ∧ tmo ≤ 50
        · rw [decide_eq_true h3]
          have H3 := Aside0.mk h3
          clear h3
          go_wp2_with fail
          go_ret
          exact ⟨by rw [HR.out.2 ⟨HR1.out.1 (by simp), H1.out, H2.out, H3.out⟩]; rfl, HB1.out⟩
        · rw [decide_eq_false h3]
          have H3 := Aside0.mk h3
          clear h3
          go_wp2_with fail
          go_ret
          exact ⟨by rw [bool_no HR.out (fun h => H3.out h.timeout)]; rfl, HB1.out⟩
      · rw [decide_eq_false h2]
        have H2 := Aside0.mk h2
        clear h2
        go_wp2_with fail
        go_ret
        exact ⟨by rw [bool_no HR.out (fun h => H2.out h.tries)]; rfl, HB1.out⟩
    · rw [decide_eq_false h1]
      have H1 := Aside0.mk h1
      clear h1
      go_wp2_with fail
      go_ret
      exact ⟨by rw [bool_no HR.out (fun h => H1.out h.workers)]; rfl, HB1.out⟩
set_option maxRecDepth 100000 in
set_option maxHeartbeats 1600000 in
theorem refCfgMay (j : JobD) (wk tr tmo : Int) (A1 A2 A3 A4 A5 : Option Addr) (c1 c2 c3 c4 c5 : Nat) (w : World) (hj : JobC w j A1 A2 A3 A4 A5 c1 c2 c3 c4 c5) (r : Bool) (hr : r = true ↔ CfgMay ⟨j, wk, tr, tmo⟩) :
    Calls Try.prog 54 #[.agg #[.slice A1 j.splits.length c1, .int .i64 j.parts, .slice A2 j.map.length c2, .slice A3 j.combine.length c3, .slice A4 j.reduce.length c4, .int .i64 j.chunk, .int .i64 j.window, .int .i64 j.fuel, .slice A5 j.marks.length c5, .int .i64 wk, .int .i64 tr, .int .i64 tmo]] w fun e w' => e = .returned (.bool r) ∧ Below w.heap.size w w' := by
  have HR := Aside0.mk hr
  clear hr
  have HJ := Aside0.mk hj
  have hmx1 := Kd.C_max hj.s
  obtain ⟨wb, hwb⟩ : ∃ wb, wb = w.alloc (.cells #[.slice A1 j.splits.length c1, .int .i64 j.parts, .slice A2 j.map.length c2, .slice A3 j.combine.length c3, .slice A4 j.reduce.length c4, .int .i64 j.chunk, .int .i64 j.window, .int .i64 j.fuel, .slice A5 j.marks.length c5, .int .i64 wk, .int .i64 tr, .int .i64 tmo] 28) := ⟨_, rfl⟩
  obtain ⟨g, hg⟩ : ∃ g, g = w.heap.size := ⟨_, rfl⟩
  have hba := (Below.refl w.heap.size w).alloc (Nat.le_refl _) (.cells #[.slice A1 j.splits.length c1, .int .i64 j.parts, .slice A2 j.map.length c2, .slice A3 j.combine.length c3, .slice A4 j.reduce.length c4, .int .i64 j.chunk, .int .i64 j.window, .int .i64 j.fuel, .slice A5 j.marks.length c5, .int .i64 wk, .int .i64 tr, .int .i64 tmo] 28)
  rw [← hwb] at hba
  have hbk : wb.heap[g]? = some (.cells ([.slice A1 j.splits.length c1, .int .i64 j.parts, .slice A2 j.map.length c2, .slice A3 j.combine.length c3, .slice A4 j.reduce.length c4, .int .i64 j.chunk, .int .i64 j.window, .int .i64 j.fuel, .slice A5 j.marks.length c5, .int .i64 wk, .int .i64 tr, .int .i64 tmo]).toArray 28 (0, 0)) := by rw [hwb, hg]; exact alloc_at w _
  have HWB := Aside0.mk hwb
  have HG := Aside0.mk hg
  have HB := Aside0.mk hba
  have HBK := Aside0.mk hbk
  have hJb := HJ.out.below hba
  have HJb := Aside0.mk hJb
  have huc := Try.underlying28
  have huj := Try.underlying26
  clear hwb hg hba hbk hj hJb
  obtain ⟨r1, hr1⟩ := bool_of (JobMay j)
  have HR1 := Aside0.mk hr1
  clear hr1
  go_enter Try.func54, Try.ntmps54
  go_upto_region 1 with (fail)
  rw [← HWB.out, ← HG.out]
  have q0 : wb.cell? ⟨g, 0, none⟩ = some (.slice A1 j.splits.length c1) := cell_of_blk HBK.out
  have q1 : wb.cell? ⟨g, 1, none⟩ = some (.int .i64 j.parts) := cell_of_blk HBK.out
  have q2 : wb.cell? ⟨g, 2, none⟩ = some (.slice A2 j.map.length c2) := cell_of_blk HBK.out
  have q3 : wb.cell? ⟨g, 3, none⟩ = some (.slice A3 j.combine.length c3) := cell_of_blk HBK.out
  have q4 : wb.cell? ⟨g, 4, none⟩ = some (.slice A4 j.reduce.length c4) := cell_of_blk HBK.out
  have q5 : wb.cell? ⟨g, 5, none⟩ = some (.int .i64 j.chunk) := cell_of_blk HBK.out
  have q6 : wb.cell? ⟨g, 6, none⟩ = some (.int .i64 j.window) := cell_of_blk HBK.out
  have q7 : wb.cell? ⟨g, 7, none⟩ = some (.int .i64 j.fuel) := cell_of_blk HBK.out
  have q8 : wb.cell? ⟨g, 8, none⟩ = some (.slice A5 j.marks.length c5) := cell_of_blk HBK.out
  go_wp2_with fail
  clear q0 q1 q2 q3 q4 q5 q6 q7 q8
  refine (refJobMay j A1 A2 A3 A4 A5 c1 c2 c3 c4 c5 _ HJb.out r1 HR1.out).mono ?_
  rintro e w1 ⟨rfl, hb1⟩
  have hbk1 := (hb1.block g (blk_lt' HBK.out)).trans HBK.out
  have HB1 := Aside0.mk (two_andj _ _ _ HB.out hb1)
  have z9 : w1.cell? ⟨g, 9, none⟩ = some (.int .i64 wk) := cell_of_blk hbk1
  have z10 : w1.cell? ⟨g, 10, none⟩ = some (.int .i64 tr) := cell_of_blk hbk1
  have z11 : w1.cell? ⟨g, 11, none⟩ = some (.int .i64 tmo) := cell_of_blk hbk1
  clear hb1 hbk1
  cases r1 with
  | false =>
    go_wp2_with fail
    go_ret
    exact ⟨by rw [bool_no HR.out (fun h => absurd (HR1.out.2 h.job) (by simp))]; rfl, HB1.out⟩
  | true =>
    go_wp2_with fail
    refine (in_ wk 1 4 _).mono ?_
    rintro e w1 ⟨rfl, rfl⟩
    by_cases h1 : 1 ≤ wk ∧ wk ≤ 4
    · rw [decide_eq_true h1]
      have H1 := Aside0.mk h1
      clear h1
      go_wp2_with fail
      refine (in_ tr 1 3 _).mono ?_
      rintro e w1 ⟨rfl, rfl⟩
      by_cases h2 : 1 ≤ tr ∧ tr ≤ 3
      · rw [decide_eq_true h2]
        have H2 := Aside0.mk h2
        clear h2
        go_wp2_with fail
        refine (in_ tmo 1 50 _).mono ?_
        rintro e w1 ⟨rfl, rfl⟩
        by_cases h3 : 1 ≤ tmo ∧ tmo ≤ 50
        · rw [decide_eq_true h3]
          have H3 := Aside0.mk h3
          clear h3
          go_wp2_with fail
          go_ret
          exact ⟨by rw [HR.out.2 ⟨HR1.out.1 (by simp), H1.out, H2.out, H3.out⟩]; rfl, HB1.out⟩
        · rw [decide_eq_false h3]
          have H3 := Aside0.mk h3
          clear h3
          go_wp2_with fail
          go_ret
          exact ⟨by rw [bool_no HR.out (fun h => H3.out h.timeout)]; rfl, HB1.out⟩
      · rw [decide_eq_false h2]
        have H2 := Aside0.mk h2
        clear h2
        go_wp2_with fail
        go_ret
        exact ⟨by rw [bool_no HR.out (fun h => H2.out h.tries)]; rfl, HB1.out⟩
    · rw [decide_eq_false h1]
      have H1 := Aside0.mk h1
      clear h1
      go_wp2_with fail
      go_ret
      exact ⟨by rw [bool_no HR.out (fun h => H1.out h.workers)]; rfl, HB1.out⟩
set_option maxRecDepth 100000 in
set_option maxHeartbeats 1600000 in
theorem greatJob (j : JobD) (A1 A2 A3 A4 A5 : Option Addr) (c1 c2 c3 c4 c5 : Nat) (w : World) (hj : JobC w j A1 A2 A3 A4 A5 c1 c2 c3 c4 c5) (hgs : ∀ l ∈ j.splits, ∀ x ∈ l, GPair x) :
    Calls Try.prog 9 #[.agg #[.slice A1 j.splits.length c1, .int .i64 j.parts, .slice A2 j.map.length c2, .slice A3 j.combine.length c3, .slice A4 j.reduce.length c4, .int .i64 j.chunk, .int .i64 j.window, .int .i64 j.fuel, .slice A5 j.marks.length c5]] w fun e w' => RetBool (fun _ => True) e ∧ Below w.heap.size w w' := by
  have HJ := Aside0.mk hj
  have hmx1 := Kd.C_max hj.s
  obtain ⟨wb, hwb⟩ : ∃ wb, wb = w.alloc (.cells #[.slice A1 j.splits.length c1, .int .i64 j.parts, .slice A2 j.map.length c2, .slice A3 j.combine.length c3, .slice A4 j.reduce.length c4, .int .i64 j.chunk, .int .i64 j.window, .int .i64 j.fuel, .slice A5 j.marks.length c5] 26) := ⟨_, rfl⟩
  obtain ⟨g, hg⟩ : ∃ g, g = w.heap.size := ⟨_, rfl⟩
  have hba := (Below.refl w.heap.size w).alloc (Nat.le_refl _) (.cells #[.slice A1 j.splits.length c1, .int .i64 j.parts, .slice A2 j.map.length c2, .slice A3 j.combine.length c3, .slice A4 j.reduce.length c4, .int .i64 j.chunk, .int .i64 j.window, .int .i64 j.fuel, .slice A5 j.marks.length c5] 26)
  rw [← hwb] at hba
  have hbk : wb.heap[g]? = some (.cells ([.slice A1 j.splits.length c1, .int .i64 j.parts, .slice A2 j.map.length c2, .slice A3 j.combine.length c3, .slice A4 j.reduce.length c4, .int .i64 j.chunk, .int .i64 j.window, .int .i64 j.fuel, .slice A5 j.marks.length c5]).toArray 26 (0, 0)) := by rw [hwb, hg]; exact alloc_at w _
  have HWB := Aside0.mk hwb
  have HG := Aside0.mk hg
  have HB := Aside0.mk hba
  have HBK := Aside0.mk hbk
  have hJb := HJ.out.below hba
  have HJb := Aside0.mk hJb
  have huc := Try.underlying28
  have huj := Try.underlying26
  clear hwb hg hba hbk hj hJb
  have hmx5 := Kd.C_max HJ.out.k
  have HGS := Aside0.mk hgs
  clear hgs huc
  go_enter Try.func9, Try.ntmps9
  go_upto_region 1 with (fail)
  rw [← HWB.out, ← HG.out]
  go_wp2_with fail
  go_loopg [3] j.splits.length (fun kq v w' => ∃ k : Nat, k + kq = j.splits.length ∧ v = .int .i64 k ∧ Aside0 (Below wb.heap.size wb w'))
  case atStart => exact ⟨0, by omega, rfl, ⟨Below.refl _ _⟩⟩
  case round =>
    obtain ⟨k, hk, rfl, HBL⟩ := hrel
    have hbL := HBL.out
    have HB2 := Aside0.mk (two_andj _ _ _ HB.out hbL)
    have HJ2 := Aside0.mk (HJb.out.below hbL)
    have hbk2 := (hbL.block g (blk_lt' HBK.out)).trans HBK.out
    have HBK2 := Aside0.mk hbk2
    have q0 : wr.cell? ⟨g, 0, none⟩ = some (.slice A1 j.splits.length c1) := cell_of_blk hbk2
    have q2 : wr.cell? ⟨g, 2, none⟩ = some (.slice A2 j.map.length c2) := cell_of_blk hbk2
    have q8 : wr.cell? ⟨g, 8, none⟩ = some (.slice A5 j.marks.length c5) := cell_of_blk hbk2
    clear hbL hbk2
    by_cases h8 : (j.splits.length : Int) ≤ 8
    · by_cases hlt : k < j.splits.length
      · obtain ⟨ad, Al, cl, rfl, hx0, hle, hC⟩ := at_rows HJ2.out.s k hlt
        obtain ⟨l, hl⟩ : ∃ l, l = j.splits[k] := ⟨_, rfl⟩
        rw [← hl] at hx0 hle hC
        have HC' := Aside0.mk hC
        have HGL : Aside0 (∀ x ∈ l, GPair x) := ⟨by rw [hl]; exact HGS.out _ (List.getElem_mem hlt)⟩
        clear hle hC hl
        go_wp2_with fail
        refine (greatPairs Al cl l 10 wr HC'.out HGL.out).mono ?_
        rintro e w3 ⟨⟨r, rfl, _⟩, hb3⟩
        have HB3 := Aside0.mk (two_andj _ _ _ HBL.out hb3)
        clear hb3
        cases r with
        | true =>
          go_wp2_with fail
          go_ret
          exact ⟨RetBool.mk true trivial, two_andj _ _ _ HB.out HB3.out⟩
        | false =>
          go_wp2_with fail
          go_roundg (j.splits.length - (k + 1))
          case measure => omega
          case rel => exact ⟨k + 1, by omega, by go_num, HB3⟩
      · obtain rfl : k = j.splits.length := by omega
        by_cases h10 : (10 : Int) < j.marks.length
        · go_wp2_with fail
          go_ret
          exact ⟨RetBool.mk true trivial, HB2.out⟩
        · go_wp2_with fail
          refine (greatCode A2 c2 j.map wr HJ2.out.m).mono ?_
          rintro e w4 ⟨⟨r4, rfl, _⟩, hb4⟩
          have HB4 := Aside0.mk (two_andj _ _ _ HB2.out hb4)
          have HJ4 := Aside0.mk (HJ2.out.below hb4)
          have hbk4 := (hb4.block g (blk_lt' HBK2.out)).trans HBK2.out
          have HBK4 := Aside0.mk hbk4
          have z3 : w4.cell? ⟨g, 3, none⟩ = some (.slice A3 j.combine.length c3) := cell_of_blk hbk4
          clear hb4 hbk4
          cases r4 with
          | true =>
            go_wp2_with fail
            go_ret
            exact ⟨RetBool.mk true trivial, HB4.out⟩
          | false =>
            go_wp2_with fail
            refine (greatCode A3 c3 j.combine w4 HJ4.out.c).mono ?_
            rintro e w5 ⟨⟨r5, rfl, _⟩, hb5⟩
            have HB5 := Aside0.mk (two_andj _ _ _ HB4.out hb5)
            have HJ5 := Aside0.mk (HJ4.out.below hb5)
            have hbk5 := (hb5.block g (blk_lt' HBK4.out)).trans HBK4.out
            have z4 : w5.cell? ⟨g, 4, none⟩ = some (.slice A4 j.reduce.length c4) := cell_of_blk hbk5
            clear hb5 hbk5
            cases r5 with
            | true =>
              go_wp2_with fail
              go_ret
              exact ⟨RetBool.mk true trivial, HB5.out⟩
            | false =>
              go_wp2_with fail
              refine (greatCode A4 c4 j.reduce w5 HJ5.out.r).mono ?_
              rintro e w6 ⟨⟨r6, rfl, _⟩, hb6⟩
              have HB6 := Aside0.mk (two_andj _ _ _ HB5.out hb6)
              clear hb6
              go_wp2_with fail
              go_ret
              exact ⟨RetBool.mk _ trivial, HB6.out⟩
    · by_cases hlt : k < j.splits.length
      · go_wp2_with fail
        go_ret
        exact ⟨RetBool.mk true trivial, HB2.out⟩
      · go_wp2_with fail
        go_ret
        exact ⟨RetBool.mk true trivial, HB2.out⟩
end Go.Proofs.Ytbnhhlahbhjogaa.K
