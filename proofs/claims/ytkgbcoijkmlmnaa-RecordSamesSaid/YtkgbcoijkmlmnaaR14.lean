/- The statement RecordSames: what the walk of its code comes to. -/
import Derived.Test.YtkgbcoijkmlmnaaR13
set_option linter.unusedVariables false
set_option linter.unusedSimpArgs false
set_option maxRecDepth 100000
namespace Go.Proofs.Ytkgbcoijkmlmnaa.K
open Go.RowKit Go.Proofs.YtkgbcoijkmlmnaaW.PrintWords Go.Proofs.YtkgbcoijkmlmnaaW.PrintLast Go.Proofs.YtkgbcoijkmlmnaaW.PrintMore Go.Proofs.Ytkgbcoijkmlmnaa.U Go.Proofs.Ytkgbcoijkmlmnaa.T

theorem lay_pos {a : List RecD} (h : 0 < (layR a).length) : (∀ x ∈ a, MayR x) ∧ layR a = allR a := by
  unfold layR at h ⊢
  by_cases hm : ∀ x ∈ a, MayR x
  · exact ⟨hm, by rw [if_pos hm]⟩
  · rw [if_neg hm] at h
    simp at h
set_option maxHeartbeats 3200000 in
theorem recordSames_walk (W : World) (A0 : Option Addr) (c0 : Nat) (a : List RecD) (hr0 : Kd.C kRec W A0 a.length a) (hc0 : a.length ≤ c0) (hg0 : ∀ x ∈ a, GRec x) (A1 : Option Addr) (c1 : Nat) (b : List RecD) (hr1 : Kd.C kRec W A1 b.length b) (hc1 : b.length ≤ c1) (hg1 : ∀ x ∈ b, GRec x) :
    Calls Try.prog 9 #[.slice A0 a.length c0, .slice A1 b.length c1] W fun e w' => e = .returned (.bool true) ∧ Below W.heap.size W w' := by
  have HR0 := Aside0.mk hr0
  have HR1 := Aside0.mk hr1
  have HG0 := Aside0.mk hg0
  have HG1 := Aside0.mk hg1
  obtain ⟨sm, hsm⟩ := bool_of (a = b)
  have HSM := Aside0.mk hsm
  have hq1 : (sm != sm) = false := by simp
  have hq2 : (sm == sm) = true := by simp
  clear hr0 hr1 hg0 hg1 hsm
  go_enter Try.func9, Try.ntmps9
  go_wp2_with fail
  refine (greatRecords A0 c0 a 10 W HR0.out HG0.out).mono ?_
  rintro e w1 ⟨⟨r, rfl, hR⟩, hb1⟩
  have HRr := Aside0.mk hR
  have HB1 := Aside0.mk hb1
  clear hR hb1
  cases r with
  | true =>
    go_wp2_with fail
    refine (awake15 _).mono ?_
    rintro e w6 ⟨rfl, hb6⟩
    have HB6 := Aside0.mk (two_andj _ _ _ HB1.out hb6)
    clear hb6
    go_wp2_with fail
    go_ret
    exact ⟨rfl, HB6.out⟩
  | false =>
  have HT0 := Aside0.mk (HRr.out rfl).1
  clear HRr
  go_wp2_with fail
  refine (greatRecords A1 c1 b 10 w1 (Kd.C_below HR1.out HB1.out) HG1.out).mono ?_
  rintro e w2 ⟨⟨r, rfl, hR⟩, hb2⟩
  have HRr := Aside0.mk hR
  have HB2 := Aside0.mk (two_andj _ _ _ HB1.out hb2)
  clear hR hb2 HB1
  cases r with
  | true =>
    go_wp2_with fail
    refine (awake15 _).mono ?_
    rintro e w6 ⟨rfl, hb6⟩
    have HB6 := Aside0.mk (two_andj _ _ _ HB2.out hb6)
    clear hb6
    go_wp2_with fail
    go_ret
    exact ⟨rfl, HB6.out⟩
  | false =>
  have HT1 := Aside0.mk (HRr.out rfl).1
  clear HRr
  go_wp2_with fail
  refine (sameRecords A0 c0 a A1 c1 b w2 (Kd.C_below HR0.out HB2.out) (Kd.C_below HR1.out HB2.out) (by have := HT0.out; omega) sm HSM.out).mono ?_
  rintro e w3 ⟨rfl, hb3⟩
  have HB3 := Aside0.mk (two_andj _ _ _ HB2.out hb3)
  clear hb3 HB2
  go_wp2_with fail
  refine (layM A0 c0 a w3 (Kd.C_below HR0.out HB3.out) (by have := HT0.out; omega)).mono ?_
  rintro e w4 ⟨v4, X, rfl, hO4, HX, hb4⟩
  obtain ⟨Ax, cx, rfl, _, hrx⟩ := hO4.reads
  have HRX := Aside0.mk hrx
  have HB4 := Aside0.mk (two_andj _ _ _ HB3.out hb4)
  clear hb4 HB3 hO4 hrx
  go_wp2_with fail
  refine (layM A1 c1 b w4 (Kd.C_below HR1.out HB4.out) (by have := HT1.out; omega)).mono ?_
  rintro e w5 ⟨v5, Y, rfl, hO5, HY, hb5⟩
  obtain ⟨Ay, cy, rfl, _, hry⟩ := hO5.reads
  have HRY := Aside0.mk hry
  have HRX5 := Aside0.mk (Kd.C_below HRX.out hb5)
  have HB5 := Aside0.mk (two_andj _ _ _ HB4.out hb5)
  clear hb5 HB4 hO5 hry HRX
  have HTAIL : Aside0 (∀ w', Below W.heap.size W w' → Calls Try.prog 39 #[.slice A0 a.length c0, .slice A1 b.length c1] w' fun e w'' => e = .returned (.bool sm) ∧ Below w'.heap.size w' w'') := ⟨fun w' hw => recSame A0 c0 a A1 c1 b w' (Kd.C_below HR0.out hw) (Kd.C_below HR1.out hw) (by have := HT0.out; omega) sm HSM.out⟩
  have HTAIL2 : Aside0 (∀ w', Below W.heap.size W w' → Calls Try.prog 39 #[.slice A1 b.length c1, .slice A0 a.length c0] w' fun e w'' => e = .returned (.bool sm) ∧ Below w'.heap.size w' w'') := ⟨fun w' hw => recSame A1 c1 b A0 c0 a w' (Kd.C_below HR1.out hw) (Kd.C_below HR0.out hw) (by have := HT1.out; omega) sm (HSM.out.trans ⟨fun h => h.symm, fun h => h.symm⟩)⟩
  by_cases hx : 0 < X.length
  case neg =>
    have hxi : ¬ (0 : Int) < X.length := by omega
    go_wp2_with fail
    refine (HTAIL.out _ HB5.out).mono ?_
    rintro e w6 ⟨rfl, hb6⟩
    have HB6 := Aside0.mk (two_andj _ _ _ HB5.out hb6)
    clear hb6
    go_wp2_with fail
    refine (HTAIL2.out _ HB6.out).mono ?_
    rintro e w7 ⟨rfl, hb7⟩
    have HB7 := Aside0.mk (two_andj _ _ _ HB6.out hb7)
    clear hb7
    go_wp2_with fail
    refine (awake15 _).mono ?_
    rintro e w8 ⟨rfl, hb8⟩
    have HB8 := Aside0.mk (two_andj _ _ _ HB7.out hb8)
    clear hb8
    go_wp2_with fail
    go_ret
    exact ⟨rfl, HB8.out⟩
  have hxi : (0 : Int) < X.length := by omega
  by_cases hy : 0 < Y.length
  case neg =>
    have hyi : ¬ (0 : Int) < Y.length := by omega
    go_wp2_with fail
    refine (HTAIL.out _ HB5.out).mono ?_
    rintro e w6 ⟨rfl, hb6⟩
    have HB6 := Aside0.mk (two_andj _ _ _ HB5.out hb6)
    clear hb6
    go_wp2_with fail
    refine (HTAIL2.out _ HB6.out).mono ?_
    rintro e w7 ⟨rfl, hb7⟩
    have HB7 := Aside0.mk (two_andj _ _ _ HB6.out hb7)
    clear hb7
    go_wp2_with fail
    refine (awake15 _).mono ?_
    rintro e w8 ⟨rfl, hb8⟩
    have HB8 := Aside0.mk (two_andj _ _ _ HB7.out hb8)
    clear hb8
    go_wp2_with fail
    go_ret
    exact ⟨rfl, HB8.out⟩
  have hyi : (0 : Int) < Y.length := by omega
  have HXY : Aside0 (sm = decide (X = Y)) := ⟨by
    have ha := lay_pos (by rw [← HX.out]; exact hx)
    have hb := lay_pos (by rw [← HY.out]; exact hy)
    have h : X = Y ↔ a = b := by
      rw [HX.out, HY.out, ha.2, hb.2]
      exact ⟨lay_inj ha.1 hb.1, fun h => by rw [h]⟩
    by_cases hab : a = b
    · rw [HSM.out.2 hab, decide_eq_true (h.2 hab)]
    · rw [bool_no HSM.out hab, decide_eq_false (fun e => hab (h.1 e))]⟩
  go_wp2_with fail
  refine (sameBytes Ax cx X Ay cy Y w5 HRX5.out HRY.out sm HXY.out).mono ?_
  rintro e w9 ⟨rfl, hb9⟩
  have HB9 := Aside0.mk (two_andj _ _ _ HB5.out hb9)
  clear hb9
  go_wp2_with fail
  refine (HTAIL.out _ HB9.out).mono ?_
  rintro e w6 ⟨rfl, hb6⟩
  have HB6 := Aside0.mk (two_andj _ _ _ HB9.out hb6)
  clear hb6
  go_wp2_with fail
  refine (HTAIL2.out _ HB6.out).mono ?_
  rintro e w7 ⟨rfl, hb7⟩
  have HB7 := Aside0.mk (two_andj _ _ _ HB6.out hb7)
  clear hb7
  go_wp2_with fail
  refine (awake15 _).mono ?_
  rintro e w8 ⟨rfl, hb8⟩
  have HB8 := Aside0.mk (two_andj _ _ _ HB7.out hb8)
  clear hb8
  go_wp2_with fail
  go_ret
  exact ⟨rfl, HB8.out⟩
end Go.Proofs.Ytkgbcoijkmlmnaa.K
