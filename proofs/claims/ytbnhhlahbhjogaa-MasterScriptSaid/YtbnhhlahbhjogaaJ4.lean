/- May a job be: the program's answer. -/
import Derived.Test.YtbnhhlahbhjogaaJ3
set_option linter.unusedVariables false
set_option linter.unusedSimpArgs false
namespace Go.Proofs.Ytbnhhlahbhjogaa.K
open Go.RowKit Go.Proofs.YtbnhhlahbhjogaaW.PrintWords Go.Proofs.YtbnhhlahbhjogaaW.PrintLast Go.Proofs.YtbnhhlahbhjogaaW.PrintMore Go.Proofs.Ytbnhhlahbhjogaa.U Go.Proofs.Ytbnhhlahbhjogaa.T

theorem splits_prefix {j : JobD} {k : Nat} (h : ∀ i (hi : i < j.splits.length), i < k → j.splits[i].length ≤ 8 ∧ PairsMay j.splits[i]) (hk : k = j.splits.length) : ∀ l ∈ j.splits, l.length ≤ 8 ∧ PairsMay l := fun l hl => by
  obtain ⟨i, hi, rfl⟩ := List.getElem_of_mem hl
  exact h i hi (by omega)
theorem lastM_succ (ms : List Int) (k : Nat) : lastM ms (k + 1) = ms.getD k 0 := by
  unfold lastM
  rw [if_neg (by omega), Nat.add_sub_cancel]
theorem lastM_le {ms : List Int} {n k : Nat} (h : MarksMay ms n k) (i : Nat) (hi : i ≤ k) : lastM ms i ≤ n := by
  cases i with
  | zero => show (0 : Int) ≤ n; omega
  | succ i => rw [lastM_succ]; exact (h i (by omega)).2
theorem rd_getD (ms : List Int) (k : Nat) : rd ms (k : Int) = ms.getD k 0 := by simp [rd]
theorem marks_step {ms : List Int} {n k : Nat} (h : MarksMay ms n k) (h1 : lastM ms k < ms.getD k 0) (h2 : ms.getD k 0 ≤ n) : MarksMay ms n (k + 1) := fun i hi => by
  rcases Nat.lt_or_ge i k with h3 | h3
  · exact h i h3
  · obtain rfl : i = k := by omega
    exact ⟨h1, h2⟩
theorem drewN_blk {w : World} {g : Nat} {o : Obj} (h : w.heap[g]? = some o) (m : Nat) : (w.drewN m).heap[g]? = some o := ((pw_below_drewN (Below.refl w.heap.size w) m).block g (blk_lt' h)).trans h
set_option maxRecDepth 100000 in
set_option maxHeartbeats 6400000 in
theorem jobMay (j : JobD) (A1 A2 A3 A4 A5 : Option Addr) (c1 c2 c3 c4 c5 : Nat) (w : World) (hj : JobC w j A1 A2 A3 A4 A5 c1 c2 c3 c4 c5) (r : Bool) (hr : r = true ↔ JobMay j) :
    Calls Try.prog 37 #[.agg #[.slice A1 j.splits.length c1, .int .i64 j.parts, .slice A2 j.map.length c2, .slice A3 j.combine.length c3, .slice A4 j.reduce.length c4, .int .i64 j.chunk, .int .i64 j.window, .int .i64 j.fuel, .slice A5 j.marks.length c5]] w fun e w' => e = .returned (.bool r) ∧ Below w.heap.size w w' := by
  have HR := Aside0.mk hr
  clear hr
  have HJ := Aside0.mk hj
  have hmx1 := Kd.C_max hj.s
  have hmx2 := Kd.C_max hj.m
  have hmx3 := Kd.C_max hj.c
  have hmx4 := Kd.C_max hj.r
  have hmx5 := Kd.C_max hj.k
  obtain ⟨wb, hwb⟩ : ∃ wb, wb = w.alloc (.cells #[.slice A1 j.splits.length c1, .int .i64 j.parts, .slice A2 j.map.length c2, .slice A3 j.combine.length c3, .slice A4 j.reduce.length c4, .int .i64 j.chunk, .int .i64 j.window, .int .i64 j.fuel, .slice A5 j.marks.length c5] 26) := ⟨_, rfl⟩
  obtain ⟨g, hg⟩ : ∃ g, g = w.heap.size := ⟨_, rfl⟩
  have hba := (Below.refl w.heap.size w).alloc (Nat.le_refl _) (.cells #[.slice A1 j.splits.length c1, .int .i64 j.parts, .slice A2 j.map.length c2, .slice A3 j.combine.length c3, .slice A4 j.reduce.length c4, .int .i64 j.chunk, .int .i64 j.window, .int .i64 j.fuel, .slice A5 j.marks.length c5] 26)
  rw [← hwb] at hba
  have hbk : wb.heap[g]? = some (.cells ([.slice A1 j.splits.length c1, .int .i64 j.parts, .slice A2 j.map.length c2, .slice A3 j.combine.length c3, .slice A4 j.reduce.length c4, .int .i64 j.chunk, .int .i64 j.window, .int .i64 j.fuel, .slice A5 j.marks.length c5]).toArray 26 (0, 0)) := by rw [hwb, hg]; exact alloc_at w _
  have HWB := Aside0.mk hwb
  have HG := Aside0.mk hg
  have HB := Aside0.mk hba
  have HBK := Aside0.mk hbk
  have hJb := HJ.out.below hba
  have HJb := Aside0.mk hJb
  clear hwb hg hba hbk hj hJb
  go_enter Try.func37, Try.ntmps37
  go_upto_region 1 with (fail)
  rw [← HWB.out, ← HG.out]
  have q0 : wb.cell? ⟨g, 0, none⟩ = some (.slice A1 j.splits.length c1) := cell_of_blk HBK.out
  have q1 : wb.cell? ⟨g, 1, none⟩ = some (.int .i64 j.parts) := cell_of_blk HBK.out
  have q8 : wb.cell? ⟨g, 8, none⟩ = some (.slice A5 j.marks.length c5) := cell_of_blk HBK.out
  go_wp2_with fail
  refine (within j.splits.length 1 6 _).mono ?_
  rintro e wb ⟨rfl, rfl⟩
  by_cases hc1 : 1 ≤ (j.splits.length : Int) ∧ (j.splits.length : Int) ≤ 6
  · rw [decide_eq_true hc1]
    go_wp2_with fail
    refine (within j.parts 1 4 _).mono ?_
    rintro e wb ⟨rfl, rfl⟩
    by_cases hc2 : 1 ≤ j.parts ∧ j.parts ≤ 4
    · rw [decide_eq_true hc2]
      by_cases hc3 : (4 : Int) < j.marks.length
      · go_wp2_with fail
        go_ret
        exact ⟨by rw [bool_no HR.out (fun h => by have := h.marks4; omega)]; rfl, HB.out⟩
      · have hm4 : j.marks.length ≤ 4 := by omega
        have HM4 := Aside0.mk hm4
        have HC1 := Aside0.mk hc1
        have HC2 := Aside0.mk hc2
        have hs6 : j.splits.length ≤ 6 := by omega
        clear hc1 hc2
        go_wp2_with fail
        clear q0 q1 q8
        go_loopg [28] j.splits.length (fun kq v w' => ∃ k : Nat, k + kq = j.splits.length ∧ v = .int .i64 k ∧ Aside0 (∀ i (hi : i < j.splits.length), i < k → j.splits[i].length ≤ 8 ∧ PairsMay j.splits[i]) ∧ Aside0 (Below wb.heap.size wb w'))
        case atStart => exact ⟨0, by omega, rfl, ⟨fun i hi h => by omega⟩, ⟨Below.refl _ _⟩⟩
        case round =>
          obtain ⟨k, hk, rfl, HA, HBL⟩ := hrel
          by_cases hlt : k < j.splits.length
          · obtain ⟨ad, Al, cl, rfl, hx0, hle, hC⟩ := at_rows (Kd.C_below HJb.out.s HBL.out) k hlt
            obtain ⟨l, hl⟩ : ∃ l, l = j.splits[k] := ⟨_, rfl⟩
            rw [← hl] at hx0 hle hC
            have hlm := Kd.C_max hC
            have HC' := Aside0.mk hC
            have HL := Aside0.mk hl
            clear hle hC hl
            by_cases h8 : (8 : Int) < l.length
            · go_wp2_with fail
              go_ret
              exact ⟨by rw [bool_no HR.out (fun h => by have := (h.each _ (List.getElem_mem hlt)).1; rw [← HL.out] at this; omega)]; rfl, two_andj _ _ _ HB.out HBL.out⟩
            · obtain ⟨r1, hr1⟩ := bool_of (PairsMay l)
              have HR1 := Aside0.mk hr1
              clear hr1
              go_wp2_with fail
              refine (pairMay Al cl l _ HC'.out r1 (by rw [Bool.eq_iff_iff, HR1.out, decide_eq_true_iff])).mono ?_
              rintro e w2 ⟨rfl, hb2⟩
              have HB2 := Aside0.mk (two_andj _ _ _ HBL.out hb2)
              clear hb2
              cases r1 with
              | false =>
                go_wp2_with fail
                go_ret
                exact ⟨by rw [bool_no HR.out (fun h => by have := (h.each _ (List.getElem_mem hlt)).2; rw [← HL.out] at this; exact absurd (HR1.out.2 this) (by simp))]; rfl, two_andj _ _ _ HB.out HB2.out⟩
              | true =>
                go_wp2_with fail
                go_roundg (j.splits.length - (k + 1))
                case measure => omega
                case rel => exact ⟨k + 1, by omega, by go_num, ⟨fun i hi h => by
                  rcases Nat.lt_or_ge i k with h3 | h3
                  · exact HA.out i hi h3
                  · obtain rfl : i = k := by omega
                    rw [← HL.out]
                    exact ⟨by omega, HR1.out.1 (by simp)⟩⟩, HB2⟩
          · obtain rfl : k = j.splits.length := by omega
            have HAL := Aside0.mk (splits_prefix HA.out rfl)
            have hbk1 := (HBL.out.block g (blk_lt' HBK.out)).trans HBK.out
            have hJ1 := HJb.out.below HBL.out
            have HJ1 := Aside0.mk hJ1
            have HBK1 := Aside0.mk hbk1
            have HB1 := Aside0.mk (two_andj _ _ _ HB.out HBL.out)
            have q8 : wr.cell? ⟨g, 8, none⟩ = some (.slice A5 j.marks.length c5) := cell_of_blk hbk1
            clear hbk1 hJ1 HA
            go_wp2_with fail
            clear q8
            go_loopg [5, 7, 44] j.marks.length (fun kq v5 v7 v44 w' => ∃ k : Nat, k + kq = j.marks.length ∧ v44 = .int .i64 k ∧ v5 = .int .i64 (lastM j.marks k) ∧ Aside0 (MarksMay j.marks j.splits.length k) ∧ w' = wr)
            case atStart => exact ⟨0, by omega, rfl, rfl, ⟨fun i h => by omega⟩, rfl⟩
            case round =>
              obtain ⟨k, hk, rfl, rfl, HMK, rfl⟩ := hrel
              by_cases hlt : k < j.marks.length
              · obtain ⟨ad, rfl, hx0⟩ := Kd.at_int HJ1.out.k (k : Int) (by omega) (by omega)
                rw [rd_getD, Int.toNat_natCast] at hx0
                obtain ⟨la, hla⟩ : ∃ la, la = lastM j.marks k := ⟨_, rfl⟩
                obtain ⟨m, hm⟩ : ∃ m, m = j.marks.getD k 0 := ⟨_, rfl⟩
                have hla0 : 0 ≤ la := by rw [hla]; exact lastM_nonneg HMK.out k (Nat.le_refl _)
                have hla1 : la ≤ j.splits.length := by rw [hla]; exact lastM_le HMK.out k (Nat.le_refl _)
                rw [← hm] at hx0
                rw [← hla]
                have HLA := Aside0.mk hla
                have HMV := Aside0.mk hm
                have q0 : wr.cell? ⟨g, 0, none⟩ = some (.slice A1 j.splits.length c1) := cell_of_blk HBK1.out
                clear hla hm
                go_wp2_with fail
                refine (within m (la + 1) j.splits.length _).mono ?_
                rintro e w3 ⟨rfl, rfl⟩
                by_cases hcm : la + 1 ≤ m ∧ m ≤ j.splits.length
                · rw [decide_eq_true hcm]
                  have HMS := Aside0.mk (marks_step HMK.out (by rw [← HLA.out, ← HMV.out]; omega) (by rw [← HMV.out]; exact hcm.2))
                  clear hcm
                  go_wp2_with fail
                  go_roundg (j.marks.length - (k + 1))
                  case measure => omega
                  case rel => exact ⟨k + 1, by omega, by go_num, by rw [lastM_succ, ← HMV.out], HMS, rfl⟩
                · rw [decide_eq_false hcm]
                  have HMN := Aside0.mk hcm
                  clear hcm
                  go_wp2_with fail
                  go_ret
                  exact ⟨by rw [bool_no HR.out (fun h => HMN.out (by have h1 := h.marks k hlt; rw [← HLA.out, ← HMV.out] at h1; omega))]; rfl, HB1.out⟩
              · obtain rfl : k = j.marks.length := by omega
                have HMM := HMK
                have HB11 := HB1
                have HJ11 := HJ1
                have HBK11 := HBK1
                have z2 : wr.cell? ⟨g, 2, none⟩ = some (.slice A2 j.map.length c2) := cell_of_blk HBK11.out
                obtain ⟨r11, hr11⟩ := bool_of (j.map.length ≠ 0 ∧ CodeMay j.map)
                have HR11 := Aside0.mk hr11
                clear hr11
                go_wp2_with fail
                refine (runs A2 c2 j.map _ HJ11.out.m HJ11.out.l2 r11 (by rw [Bool.eq_iff_iff, HR11.out, decide_eq_true_iff])).mono ?_
                rintro e w12 ⟨rfl, hb12⟩
                have HB12 := Aside0.mk (two_andj _ _ _ HB11.out hb12)
                have HJ12 := Aside0.mk (HJ11.out.below hb12)
                have HBK12 := Aside0.mk ((hb12.block g (blk_lt' HBK11.out)).trans HBK11.out)
                clear hb12 z2
                cases r11 with
                | false =>
                  go_wp2_with fail
                  go_ret
                  exact ⟨by rw [bool_no HR.out (fun h => absurd (HR11.out.2 (h.map)) (by simp))]; rfl, HB12.out⟩
                | true =>
                  have z4 : w12.cell? ⟨g, 4, none⟩ = some (.slice A4 j.reduce.length c4) := cell_of_blk HBK12.out
                  obtain ⟨r12, hr12⟩ := bool_of (j.reduce.length ≠ 0 ∧ CodeMay j.reduce)
                  have HR12 := Aside0.mk hr12
                  clear hr12
                  go_wp2_with fail
                  refine (runs A4 c4 j.reduce _ HJ12.out.r HJ12.out.l4 r12 (by rw [Bool.eq_iff_iff, HR12.out, decide_eq_true_iff])).mono ?_
                  rintro e w13 ⟨rfl, hb13⟩
                  have HB13 := Aside0.mk (two_andj _ _ _ HB12.out hb13)
                  have HJ13 := Aside0.mk (HJ12.out.below hb13)
                  have HBK13 := Aside0.mk ((hb13.block g (blk_lt' HBK12.out)).trans HBK12.out)
                  clear hb13 z4
                  cases r12 with
                  | false =>
                    go_wp2_with fail
                    go_ret
                    exact ⟨by rw [bool_no HR.out (fun h => absurd (HR12.out.2 (h.reduce)) (by simp))]; rfl, HB13.out⟩
                  | true =>
                    have z3 : w13.cell? ⟨g, 3, none⟩ = some (.slice A3 j.combine.length c3) := cell_of_blk HBK13.out
                    obtain ⟨r13, hr13⟩ := bool_of (CodeMay j.combine)
                    have HR13 := Aside0.mk hr13
                    clear hr13
                    go_wp2_with fail
                    refine (progMay A3 c3 j.combine _ HJ13.out.c HJ13.out.l3 r13 (by rw [Bool.eq_iff_iff, HR13.out, decide_eq_true_iff])).mono ?_
                    rintro e w14 ⟨rfl, hb14⟩
                    have HB14 := Aside0.mk (two_andj _ _ _ HB13.out hb14)
                    have HJ14 := Aside0.mk (HJ13.out.below hb14)
                    have HBK14 := Aside0.mk ((hb14.block g (blk_lt' HBK13.out)).trans HBK13.out)
                    clear hb14 z3
                    cases r13 with
                    | false =>
                      go_wp2_with fail
                      go_ret
                      exact ⟨by rw [bool_no HR.out (fun h => absurd (HR13.out.2 (h.combine)) (by simp))]; rfl, HB14.out⟩
                    | true =>
                      have z5 : w14.cell? ⟨g, 5, none⟩ = some (.int .i64 j.chunk) := cell_of_blk HBK14.out
                      go_wp2_with fail
                      refine (within j.chunk 1 7 _).mono ?_
                      rintro e w15 ⟨rfl, rfl⟩
                      clear z5
                      by_cases hh14 : 1 ≤ j.chunk ∧ j.chunk ≤ 7
                      · rw [decide_eq_true hh14]
                        have HH14 := Aside0.mk hh14
                        have HB15 := HB14
                        have HBK15 := HBK14
                        clear hh14
                        have z6 : w15.cell? ⟨g, 6, none⟩ = some (.int .i64 j.window) := cell_of_blk HBK15.out
                        go_wp2_with fail
                        refine (within j.window 1 4 _).mono ?_
                        rintro e w16 ⟨rfl, rfl⟩
                        clear z6
                        by_cases hh15 : 1 ≤ j.window ∧ j.window ≤ 4
                        · rw [decide_eq_true hh15]
                          have HH15 := Aside0.mk hh15
                          have HB16 := HB15
                          have HBK16 := HBK15
                          clear hh15
                          have z7 : w16.cell? ⟨g, 7, none⟩ = some (.int .i64 j.fuel) := cell_of_blk HBK16.out
                          go_wp2_with fail
                          refine (within j.fuel 1 2000 _).mono ?_
                          rintro e w17 ⟨rfl, rfl⟩
                          clear z7
                          by_cases hh16 : 1 ≤ j.fuel ∧ j.fuel ≤ 2000
                          · rw [decide_eq_true hh16]
                            have HH16 := Aside0.mk hh16
                            have HB17 := HB16
                            have HBK17 := HBK16
                            clear hh16
                            go_wp2_with fail
                            go_ret
                            exact ⟨by rw [HR.out.2 ⟨HC1.out, HC2.out, HM4.out, HAL.out, HMM.out, HR11.out.1 (by simp), HR12.out.1 (by simp), HR13.out.1 (by simp), HH14.out, HH15.out, HH16.out⟩]; rfl, HB17.out⟩
                          · rw [decide_eq_false hh16]
                            have HH16 := Aside0.mk hh16
                            clear hh16
                            go_wp2_with fail
                            go_ret
                            exact ⟨by rw [bool_no HR.out (fun h => HH16.out (h.fuel))]; rfl, HB16.out⟩
                        · rw [decide_eq_false hh15]
                          have HH15 := Aside0.mk hh15
                          clear hh15
                          go_wp2_with fail
                          go_ret
                          exact ⟨by rw [bool_no HR.out (fun h => HH15.out (h.window))]; rfl, HB15.out⟩
                      · rw [decide_eq_false hh14]
                        have HH14 := Aside0.mk hh14
                        clear hh14
                        go_wp2_with fail
                        go_ret
                        exact ⟨by rw [bool_no HR.out (fun h => HH14.out (h.chunk))]; rfl, HB14.out⟩
    · rw [decide_eq_false hc2]
      go_wp2_with fail
      go_ret
      exact ⟨by rw [bool_no HR.out (fun h => hc2 h.parts)]; rfl, HB.out⟩
  · rw [decide_eq_false hc1]
    go_wp2_with fail
    go_ret
    exact ⟨by rw [bool_no HR.out (fun h => hc1 h.splits)]; rfl, HB.out⟩
end Go.Proofs.Ytbnhhlahbhjogaa.K
