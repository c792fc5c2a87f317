/- May a job be: the document's answer. -/
import Derived.Test.YtbnhhlahbhjogaaJ4
set_option linter.unusedVariables false
set_option linter.unusedSimpArgs false
namespace Go.Proofs.Ytbnhhlahbhjogaa.K
open Go.RowKit Go.Proofs.YtbnhhlahbhjogaaW.PrintWords Go.Proofs.YtbnhhlahbhjogaaW.PrintLast Go.Proofs.YtbnhhlahbhjogaaW.PrintMore Go.Proofs.Ytbnhhlahbhjogaa.U Go.Proofs.Ytbnhhlahbhjogaa.T

set_option maxRecDepth 100000 in
set_option maxHeartbeats 6400000 in
theorem refJobMay (j : JobD) (A1 A2 A3 A4 A5 : Option Addr) (c1 c2 c3 c4 c5 : Nat) (w : World) (hj : JobC w j A1 A2 A3 A4 A5 c1 c2 c3 c4 c5) (r : Bool) (hr : r = true ↔ JobMay j) :
    Calls Try.prog 76 #[.agg #[.slice A1 j.splits.length c1, .int .i64 j.parts, .slice A2 j.map.length c2, .slice A3 j.combine.length c3, .slice A4 j.reduce.length c4, .int .i64 j.chunk, .int .i64 j.window, .int .i64 j.fuel, .slice A5 j.marks.length c5]] w fun e w' => e = .returned (.bool r) ∧ Below w.heap.size w w' := by
  have HR := Aside0.mk hr
  clear hr
  have HJ := Aside0.mk hj
  have hmx1 := Kd.C_max hj.s
  have hmx2 := Kd.C_max hj.m
  have hmx3 := Kd.C_max hj.c
  have hmx4 := Kd.C_max hj.r
  have hmx5 := Kd.C_max hj.k
  obtain ⟨wb, hwb⟩ : ∃ wb, wb = w.alloc (.cells #[.slice A1 j.splits.length c1, .int .i64 j.parts, .slice A2 j.map.length c2, .slice A3 j.combine.length c3, .slice A4 j.reduce.length c4, .int .i64 j.chunk, .int .i64 j.window, .int .i64 j.fuel, .slice A5 j.marks.length c5] 26) := ⟨_, rfl⟩
  obtain ⟨g, hg⟩ : ∃ g, g = w.heap.size := ⟨_, rfl⟩
  have hba := (Below.refl w.heap.size w).alloc (Nat.le_refl _) (.cells #[.slice A1 j.splits.length c1, .int .i64 j.parts, .slice A2 j.map.length c2, .slice A3 j.combine.length c3, .slice A4 j.reduce.length c4, .int .i64 j.chunk, .int .i64 j.window, .int .i64 j.fuel, .slice A5 j.marks.length c5] 26)
  rw [← hwb] at hba
  have hbk : wb.heap[g]? = some (.cells ([.slice A1 j.splits.length c1, .int .i64 j.parts, .slice A2 j.map.length c2, .slice A3 j.combine.length c3, .slice A4 j.reduce.length c4, .int .i64 j.chunk, .int .i64 j.window, .int .i64 j.fuel, .slice A5 j.marks.length c5]).toArray 26 (0, 0)) := by rw [hwb, hg]; exact alloc_at w _
  have HWB := Aside0.mk hwb
  have HG := Aside0.mk hg
  have HB := Aside0.mk hba
  have HBK := Aside0.mk hbk
  have hJb := HJ.out.below hba
  have HJb := Aside0.mk hJb
  clear hwb hg hba hbk hj hJb
  go_enter Try.func76, Try.ntmps76
  go_upto_region 1 with (fail)
  rw [← HWB.out, ← HG.out]
  have q0 : wb.cell? ⟨g, 0, none⟩ = some (.slice A1 j.splits.length c1) := cell_of_blk HBK.out
  have q1 : wb.cell? ⟨g, 1, none⟩ = some (.int .i64 j.parts) := cell_of_blk HBK.out
  have q2 : wb.cell? ⟨g, 2, none⟩ = some (.slice A2 j.map.length c2) := cell_of_blk HBK.out
  have q4 : wb.cell? ⟨g, 4, none⟩ = some (.slice A4 j.reduce.length c4) := cell_of_blk HBK.out
  go_wp2_with fail
  refine (in_ j.splits.length 1 6 _).mono ?_
  rintro e wb ⟨rfl, rfl⟩
  by_cases hc1 : 1 ≤ (j.splits.length : Int) ∧ (j.splits.length : Int) ≤ 6
  · rw [decide_eq_true hc1]
    go_wp2_with fail
    refine (in_ j.parts 1 4 _).mono ?_
    rintro e wb ⟨rfl, rfl⟩
    by_cases hc2 : 1 ≤ j.parts ∧ j.parts ≤ 4
    · rw [decide_eq_true hc2]
      by_cases hmz : j.map.length = 0
      · have hmb : ((j.map.length : Int) == 0) = true := by simp [hmz]
        go_wp2_with fail
        go_ret
        exact ⟨by rw [bool_no HR.out (fun h => h.map.1 hmz)]; rfl, HB.out⟩
      · have hmb : ((j.map.length : Int) == 0) = false := beq_eq_false_iff_ne.2 (by omega)
        by_cases hrz : j.reduce.length = 0
        · have hrb : ((j.reduce.length : Int) == 0) = true := by simp [hrz]
          go_wp2_with fail
          go_ret
          exact ⟨by rw [bool_no HR.out (fun h => h.reduce.1 hrz)]; rfl, HB.out⟩
        · have hrb : ((j.reduce.length : Int) == 0) = false := beq_eq_false_iff_ne.2 (by omega)
          have HC1 := Aside0.mk hc1
          have HC2 := Aside0.mk hc2
          have HMN := Aside0.mk hmz
          have HRN := Aside0.mk hrz
          have hs6 : j.splits.length ≤ 6 := by omega
          obtain ⟨w9, hw9⟩ : ∃ w9, w9 = wb := ⟨_, rfl⟩
          subst hw9
          have HB9 := HB
          have HJ9 := HJb
          have HBK9 := HBK
          clear hc1 hc2 hmz hrz
          have z2 : w9.cell? ⟨g, 2, none⟩ = some (.slice A2 j.map.length c2) := cell_of_blk HBK9.out
          go_wp2_with fail
          clear q0 q1 q2 q4
          refine (refBad A2 c2 j.map _ HJ9.out.m HJ9.out.l2).mono ?_
          rintro e w10 ⟨b10, rfl, HBB10, hb10⟩
          have HB10 := Aside0.mk (two_andj _ _ _ HB9.out hb10)
          have HJ10 := Aside0.mk (HJ9.out.below hb10)
          have HBK10 := Aside0.mk ((hb10.block g (blk_lt' HBK9.out)).trans HBK9.out)
          clear hb10 z2
          rcases Int.lt_or_le b10 0 with hn10 | hn10
          · have HCM10 := Aside0.mk (HBB10.out.1 hn10)
            have z3 : w10.cell? ⟨g, 3, none⟩ = some (.slice A3 j.combine.length c3) := cell_of_blk HBK10.out
            go_wp2_with fail
            refine (refBad A3 c3 j.combine _ HJ10.out.c HJ10.out.l3).mono ?_
            rintro e w11 ⟨b11, rfl, HBB11, hb11⟩
            have HB11 := Aside0.mk (two_andj _ _ _ HB10.out hb11)
            have HJ11 := Aside0.mk (HJ10.out.below hb11)
            have HBK11 := Aside0.mk ((hb11.block g (blk_lt' HBK10.out)).trans HBK10.out)
            clear hb11 z3
            rcases Int.lt_or_le b11 0 with hn11 | hn11
            · have HCM11 := Aside0.mk (HBB11.out.1 hn11)
              have z4 : w11.cell? ⟨g, 4, none⟩ = some (.slice A4 j.reduce.length c4) := cell_of_blk HBK11.out
              go_wp2_with fail
              refine (refBad A4 c4 j.reduce _ HJ11.out.r HJ11.out.l4).mono ?_
              rintro e w12 ⟨b12, rfl, HBB12, hb12⟩
              have HB12 := Aside0.mk (two_andj _ _ _ HB11.out hb12)
              have HJ12 := Aside0.mk (HJ11.out.below hb12)
              have HBK12 := Aside0.mk ((hb12.block g (blk_lt' HBK11.out)).trans HBK11.out)
              clear hb12 z4
              rcases Int.lt_or_le b12 0 with hn12 | hn12
              · have HCM12 := Aside0.mk (HBB12.out.1 hn12)
                go_wp2_with fail
                go_loopg [3] j.splits.length (fun kq v w' => ∃ k : Nat, k + kq = j.splits.length ∧ v = .int .i64 k ∧ Aside0 (∀ i (hi : i < j.splits.length), i < k → j.splits[i].length ≤ 8 ∧ PairsMay j.splits[i]) ∧ Aside0 (Below w12.heap.size w12 w'))
                case atStart => exact ⟨0, by omega, rfl, ⟨fun i hi h => by omega⟩, ⟨Below.refl _ _⟩⟩
                case round =>
                  obtain ⟨k, hk, rfl, HA, HBL⟩ := hrel
                  have hbL := HBL.out
                  have HB20 := Aside0.mk (two_andj _ _ _ HB12.out hbL)
                  have HJ20 := Aside0.mk (HJ12.out.below hbL)
                  have HBK20 := Aside0.mk ((hbL.block g (blk_lt' HBK12.out)).trans HBK12.out)
                  have z0 : wr.cell? ⟨g, 0, none⟩ = some (.slice A1 j.splits.length c1) := cell_of_blk HBK20.out
                  clear hbL
                  by_cases hlt : k < j.splits.length
                  · obtain ⟨ad, Al, cl, rfl, hx0, hle, hC⟩ := at_rows HJ20.out.s k hlt
                    obtain ⟨l, hl⟩ : ∃ l, l = j.splits[k] := ⟨_, rfl⟩
                    rw [← hl] at hx0 hle hC
                    have hlm := Kd.C_max hC
                    have HC' := Aside0.mk hC
                    have HL := Aside0.mk hl
                    clear hle hC hl
                    by_cases h8 : (8 : Int) < l.length
                    · go_wp2_with fail
                      go_ret
                      exact ⟨by rw [bool_no HR.out (fun h => by have := (h.each _ (List.getElem_mem hlt)).1; rw [← HL.out] at this; omega)]; rfl, HB20.out⟩
                    · obtain ⟨r1, hr1⟩ := bool_of (PairsMay l)
                      have HR1 := Aside0.mk hr1
                      clear hr1
                      go_wp2_with fail
                      refine (refPairMay Al cl l _ HC'.out r1 (by rw [Bool.eq_iff_iff, HR1.out, decide_eq_true_iff])).mono ?_
                      rintro e w2 ⟨rfl, hb2⟩
                      have HB2 := Aside0.mk (two_andj _ _ _ HBL.out hb2)
                      clear hb2
                      cases r1 with
                      | false =>
                        go_wp2_with fail
                        go_ret
                        exact ⟨by rw [bool_no HR.out (fun h => by have := (h.each _ (List.getElem_mem hlt)).2; rw [← HL.out] at this; exact absurd (HR1.out.2 this) (by simp))]; rfl, two_andj _ _ _ HB12.out HB2.out⟩
                      | true =>
                        go_wp2_with fail
                        go_roundg (j.splits.length - (k + 1))
                        case measure => omega
                        case rel => exact ⟨k + 1, by omega, by go_num, ⟨fun i hi h => by
                          rcases Nat.lt_or_ge i k with h3 | h3
                          · exact HA.out i hi h3
                          · obtain rfl : i = k := by omega
                            rw [← HL.out]
                            exact ⟨by omega, HR1.out.1 (by simp)⟩⟩, HB2⟩
                  · obtain rfl : k = j.splits.length := by omega
                    have HAL := Aside0.mk (splits_prefix HA.out rfl)
                    clear HA
                    obtain ⟨w20, hw20⟩ : ∃ w20, w20 = wr := ⟨_, rfl⟩
                    subst hw20
                    have z5 : w20.cell? ⟨g, 5, none⟩ = some (.int .i64 j.chunk) := cell_of_blk HBK20.out
                    have z6 : w20.cell? ⟨g, 6, none⟩ = some (.int .i64 j.window) := cell_of_blk HBK20.out
                    have z7 : w20.cell? ⟨g, 7, none⟩ = some (.int .i64 j.fuel) := cell_of_blk HBK20.out
                    have z8 : w20.cell? ⟨g, 8, none⟩ = some (.slice A5 j.marks.length c5) := cell_of_blk HBK20.out
                    go_wp2_with fail
                    clear z0
                    refine (in_ j.chunk 1 7 _).mono ?_
                    rintro e w20 ⟨rfl, rfl⟩
                    by_cases hh1 : 1 ≤ j.chunk ∧ j.chunk ≤ 7
                    · rw [decide_eq_true hh1]
                      have HH1 := Aside0.mk hh1
                      clear hh1
                      go_wp2_with fail
                      refine (in_ j.window 1 4 _).mono ?_
                      rintro e w20 ⟨rfl, rfl⟩
                      by_cases hh2 : 1 ≤ j.window ∧ j.window ≤ 4
                      · rw [decide_eq_true hh2]
                        have HH2 := Aside0.mk hh2
                        clear hh2
                        go_wp2_with fail
                        refine (in_ j.fuel 1 2000 _).mono ?_
                        rintro e w20 ⟨rfl, rfl⟩
                        by_cases hh3 : 1 ≤ j.fuel ∧ j.fuel ≤ 2000
                        · rw [decide_eq_true hh3]
                          have HH3 := Aside0.mk hh3
                          clear hh3
                          by_cases hc3 : (4 : Int) < j.marks.length
                          · go_wp2_with fail
                            go_ret
                            exact ⟨by rw [bool_no HR.out (fun h => by have := h.marks4; omega)]; rfl, HB20.out⟩
                          · have HM4 : Aside0 (j.marks.length ≤ 4) := ⟨by omega⟩
                            go_wp2_with fail
                            clear z5 z6 z7 z8
                            go_loopg [4] j.marks.length (fun kq v w' => ∃ k : Nat, k + kq = j.marks.length ∧ v = .int .i64 k ∧ Aside0 (MarksMay j.marks j.splits.length k) ∧ Drawn0 w20 w')
                            case atStart => exact ⟨0, by omega, rfl, ⟨fun i h => by omega⟩, Drawn0.refl _⟩
                            case round =>
                              obtain ⟨k, hk, rfl, HMK, ⟨m1, rfl⟩⟩ := hrel
                              have z8 : w20.cell? ⟨g, 8, none⟩ = some (.slice A5 j.marks.length c5) := cell_of_blk HBK20.out
                              have z0 : w20.cell? ⟨g, 0, none⟩ = some (.slice A1 j.splits.length c1) := cell_of_blk HBK20.out
                              by_cases hlt : k < j.marks.length
                              · obtain ⟨ad, rfl, hx0⟩ := Kd.at_int HJ20.out.k (k : Int) (by omega) (by omega)
                                rw [rd_getD, Int.toNat_natCast] at hx0
                                obtain ⟨la, hla⟩ : ∃ la, la = lastM j.marks k := ⟨_, rfl⟩
                                obtain ⟨m, hm⟩ : ∃ m, m = j.marks.getD k 0 := ⟨_, rfl⟩
                                have hla0 : 0 ≤ la := by rw [hla]; exact lastM_nonneg HMK.out k (Nat.le_refl _)
                                rw [← hm] at hx0
                                have HLA := Aside0.mk hla
                                have HMV := Aside0.mk hm
                                have hi0 : (0 : Int) ≤ k := by omega
                                have hi1 : (k : Int) < j.marks.length := by omega
                                clear hm
                                by_cases hcm : 1 ≤ m ∧ m ≤ (j.splits.length : Int)
                                · have HIN : Aside0 (∀ w, Calls Try.prog 77 #[.int .i64 m, .int .i64 1, .int .i64 j.splits.length] w fun e w' => e = .returned (.bool true) ∧ w' = w) := ⟨fun w => by rw [← decide_eq_true hcm]; exact in_ m 1 j.splits.length w⟩
                                  by_cases hk0 : k = 0
                                  · have hd0 : decide ((0 : Int) < k) = false := decide_eq_false (by omega)
                                    have hd1 : decide (0 < k) = false := decide_eq_false (by omega)
                                    have HMS := Aside0.mk (marks_step HMK.out (by rw [← HMV.out, hk0]; show (0 : Int) < m; omega) (by rw [← HMV.out]; exact hcm.2))
                                    clear hcm hk0 hla
                                    go_wp2_with fail
                                    go_quiet ((go_at_call 77; exact (HIN.out _).mono (fun e w' h => ⟨h.1, _, h.2⟩)))
                                    go_wp2_with fail
                                    go_roundg (j.marks.length - (k + 1))
                                    case measure => omega
                                    case rel => exact ⟨k + 1, by omega, by go_num, HMS, by repeat (first | exact Drawn0.refl _ | apply Drawn0.step)⟩
                                  · have hd0 : (0 : Int) < k := by omega
                                    have hd1 : 0 < k := by omega
                                    obtain ⟨ad', e', hx1⟩ := Kd.at_int HJ20.out.k ((k - 1 : Nat) : Int) (by omega) (by omega)
                                    cases e'
                                    rw [rd_getD, Int.toNat_natCast] at hx1
                                    have hl : la = j.marks.getD (k - 1) 0 := by rw [hla]; unfold lastM; rw [if_neg hk0]
                                    rw [← hl] at hx1
                                    have hw1 : IntKind.i64.wrap ((k : Int) - 1) = (k : Int) - 1 := IntWalk.i64_in _ (by omega)
                                    have hw2 : ((k : Int) - 1).toNat = k - 1 := by omega
                                    have hw3 : (0 : Int) ≤ (k : Int) - 1 := by omega
                                    have hw4 : (k : Int) - 1 < j.marks.length := by omega
                                    by_cases hge : m ≤ la
                                    · have HGE := Aside0.mk hge
                                      clear hcm hk0 hla hl
                                      go_wp2_with fail
                                      go_quiet ((go_at_call 77; exact (HIN.out _).mono (fun e w' h => ⟨h.1, _, h.2⟩)))
                                      clear hw1 hw2
                                      go_wp2_with fail
                                      go_ret
                                      exact ⟨by rw [bool_no HR.out (fun h => by have h1 := (h.marks k hlt).1; rw [← HLA.out, ← HMV.out] at h1; have := HGE.out; omega)]; rfl, two_andj _ _ _ HB20.out (by first | exact pw_below_drewN (pw_below_drewN (Below.refl _ _) _) _ | exact pw_below_drewN (Below.refl _ _) _)⟩
                                    · have hgb : decide (m ≤ la) = false := decide_eq_false hge
                                      have HMS := Aside0.mk (marks_step HMK.out (by rw [← HMV.out, ← HLA.out]; omega) (by rw [← HMV.out]; exact hcm.2))
                                      clear hcm hk0 hla hl hge
                                      go_wp2_with fail
                                      go_quiet ((go_at_call 77; exact (HIN.out _).mono (fun e w' h => ⟨h.1, _, h.2⟩)))
                                      clear hw1 hw2
                                      go_wp2_with fail
                                      go_roundg (j.marks.length - (k + 1))
                                      case measure => omega
                                      case rel => exact ⟨k + 1, by omega, by go_num, HMS, by repeat (first | exact Drawn0.refl _ | apply Drawn0.step)⟩
                                · have HIN : Aside0 (∀ w, Calls Try.prog 77 #[.int .i64 m, .int .i64 1, .int .i64 j.splits.length] w fun e w' => e = .returned (.bool false) ∧ w' = w) := ⟨fun w => by rw [← decide_eq_false hcm]; exact in_ m 1 j.splits.length w⟩
                                  have HCM := Aside0.mk hcm
                                  clear hcm hla
                                  go_wp2_with fail
                                  go_quiet ((go_at_call 77; exact (HIN.out _).mono (fun e w' h => ⟨h.1, _, h.2⟩)))
                                  go_wp2_with fail
                                  go_ret
                                  exact ⟨by rw [bool_no HR.out (fun h => HCM.out (by have h1 := h.marks k hlt; rw [← HLA.out, ← HMV.out] at h1; omega))]; rfl, two_andj _ _ _ HB20.out (by first | exact pw_below_drewN (pw_below_drewN (Below.refl _ _) _) _ | exact pw_below_drewN (Below.refl _ _) _)⟩
                              · obtain rfl : k = j.marks.length := by omega
                                go_wp2_with fail
                                go_ret
                                exact ⟨by rw [HR.out.2 ⟨HC1.out, HC2.out, HM4.out, HAL.out, HMK.out, ⟨HMN.out, HCM10.out⟩, ⟨HRN.out, HCM12.out⟩, HCM11.out, HH1.out, HH2.out, HH3.out⟩]; rfl, two_andj _ _ _ HB20.out (pw_below_drewN (Below.refl _ _) _)⟩
                        · rw [decide_eq_false hh3]
                          have HH3 := Aside0.mk hh3
                          clear hh3
                          go_wp2_with fail
                          go_ret
                          exact ⟨by rw [bool_no HR.out (fun h => HH3.out h.fuel)]; rfl, HB20.out⟩
                      · rw [decide_eq_false hh2]
                        have HH2 := Aside0.mk hh2
                        clear hh2
                        go_wp2_with fail
                        go_ret
                        exact ⟨by rw [bool_no HR.out (fun h => HH2.out h.window)]; rfl, HB20.out⟩
                    · rw [decide_eq_false hh1]
                      have HH1 := Aside0.mk hh1
                      clear hh1
                      go_wp2_with fail
                      go_ret
                      exact ⟨by rw [bool_no HR.out (fun h => HH1.out h.chunk)]; rfl, HB20.out⟩
              · have HCM12 := Aside0.mk (show ¬ CodeMay j.reduce from fun h => by have := HBB12.out.2 h; omega)
                go_wp2_with fail
                go_ret
                exact ⟨by rw [bool_no HR.out (fun h => HCM12.out (h.reduce.2))]; rfl, HB12.out⟩
            · have HCM11 := Aside0.mk (show ¬ CodeMay j.combine from fun h => by have := HBB11.out.2 h; omega)
              go_wp2_with fail
              go_ret
              exact ⟨by rw [bool_no HR.out (fun h => HCM11.out (h.combine))]; rfl, HB11.out⟩
          · have HCM10 := Aside0.mk (show ¬ CodeMay j.map from fun h => by have := HBB10.out.2 h; omega)
            go_wp2_with fail
            go_ret
            exact ⟨by rw [bool_no HR.out (fun h => HCM10.out (h.map.2))]; rfl, HB10.out⟩
    · rw [decide_eq_false hc2]
      go_wp2_with fail
      go_ret
      exact ⟨by rw [bool_no HR.out (fun h => hc2 h.parts)]; rfl, HB.out⟩
  · rw [decide_eq_false hc1]
    go_wp2_with fail
    go_ret
    exact ⟨by rw [bool_no HR.out (fun h => hc1 h.splits)]; rfl, HB.out⟩
end Go.Proofs.Ytbnhhlahbhjogaa.K
