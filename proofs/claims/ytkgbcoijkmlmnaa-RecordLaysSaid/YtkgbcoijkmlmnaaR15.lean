/- The statement RecordLays: what the walk of its code comes to. -/
import Derived.Test.YtkgbcoijkmlmnaaR13
import Derived.Test.YtkgbcoijkmlmnaaR7
set_option linter.unusedVariables false
set_option linter.unusedSimpArgs false
set_option maxRecDepth 100000
namespace Go.Proofs.Ytkgbcoijkmlmnaa.K
open Go.RowKit Go.Proofs.YtkgbcoijkmlmnaaW.PrintWords Go.Proofs.YtkgbcoijkmlmnaaW.PrintLast Go.Proofs.YtkgbcoijkmlmnaaW.PrintMore Go.Proofs.Ytkgbcoijkmlmnaa.U Go.Proofs.Ytkgbcoijkmlmnaa.T

theorem layR_small (l : List RecD) : (layR l).length ≤ 5896 * l.length := by
  unfold layR
  by_cases hm : ∀ x ∈ l, MayR x
  · rw [if_pos hm]; exact allR_small l hm
  · rw [if_neg hm]; exact Nat.zero_le _
set_option maxHeartbeats 3200000 in
theorem recordLays_walk (W : World) (A0 : Option Addr) (c0 : Nat) (rs : List RecD) (hr0 : Kd.C kRec W A0 rs.length rs) (hc0 : rs.length ≤ c0) (hg0 : ∀ x ∈ rs, GRec x) :
    Calls Try.prog 8 #[.slice A0 rs.length c0] W fun e w' => e = .returned (.bool true) ∧ Below W.heap.size W w' := by
  have HR0 := Aside0.mk hr0
  have HG0 := Aside0.mk hg0
  have hu := Try.underlying64
  clear hr0 hg0
  go_enter Try.func8, Try.ntmps8
  go_wp2_with fail
  refine (greatRecords A0 c0 rs 10 W HR0.out HG0.out).mono ?_
  rintro e w1 ⟨⟨r, rfl, hR⟩, hb1⟩
  have HRr := Aside0.mk hR
  have HB1 := Aside0.mk hb1
  clear hR hb1
  cases r with
  | true =>
    go_wp2_with fail
    refine (awake15 _).mono ?_
    rintro e w6 ⟨rfl, hb6⟩
    have HB6 := Aside0.mk (two_andj _ _ _ HB1.out hb6)
    clear hb6
    go_wp2_with fail
    go_ret
    exact ⟨rfl, HB6.out⟩
  | false =>
  have HT0 := Aside0.mk (HRr.out rfl).1
  clear HRr
  go_wp2_with fail
  refine (layM A0 c0 rs w1 (Kd.C_below HR0.out HB1.out) (by have := HT0.out; omega)).mono ?_
  rintro e w3 ⟨v3, X, rfl, hO3, HX, hb3⟩
  obtain ⟨Ax, cx, rfl, _, hrx⟩ := hO3.reads
  have HO3 := Aside0.mk (hO3.lower HB1.out.size)
  have HRX := Aside0.mk hrx
  have HB3 := Aside0.mk (two_andj _ _ _ HB1.out hb3)
  have HXL : Aside0 (X.length ≤ 100000) := ⟨by rw [HX.out]; have := layR_small rs; have := HT0.out; omega⟩
  clear hb3 hO3 hrx HB1
  go_wp2_with fail
  refine (refLay A0 c0 rs w3 (Kd.C_below HR0.out HB3.out) (by have := HT0.out; omega)).mono ?_
  rintro e w4 ⟨v4, Y, rfl, hO4, HY, hb4⟩
  obtain ⟨Ay, cy, rfl, _, hry⟩ := hO4.reads
  have HRY := Aside0.mk hry
  have HRX4 := Aside0.mk (Kd.C_below HRX.out hb4)
  have HO4 := Aside0.mk (HO3.out.below hb4)
  have HB4 := Aside0.mk (two_andj _ _ _ HB3.out hb4)
  clear hb4 hO4 hry HB3 HRX HO3
  go_wp2_with fail
  refine (sameBytes Ax cx X Ay cy Y w4 HRX4.out HRY.out true (by rw [HX.out, HY.out]; simp)).mono ?_
  rintro e w5 ⟨rfl, hb5⟩
  have HO5 := Aside0.mk (HO4.out.below hb5)
  have HB5 := Aside0.mk (two_andj _ _ _ HB4.out hb5)
  clear hb5 HB4 HRX4 HRY HO4
  go_wp2_with fail
  go_loopg [4, 5] rs.length (fun kq v4 v5 w' => ∃ k : Nat, k + kq = rs.length ∧ v5 = .int .i64 k ∧ v4 = .bool true ∧ Aside0 (Own (Kd.int .u8) 5 w' W.heap.size (.slice Ax X.length cx) X) ∧ Aside0 (Below W.heap.size W w'))
  case atStart => exact ⟨0, by omega, rfl, rfl, HO5, HB5⟩
  case round =>
    clear HO5 HB5
    obtain ⟨k, hk, rfl, rfl, HO, HB⟩ := hrel
    have hk10 : rs.length ≤ 10 := by have := HT0.out; omega
    by_cases hlt : k < rs.length
    · obtain ⟨ad, A1, A2, c1, c2, rfl, hC, hcell⟩ := at_rec (Kd.C_below HR0.out HB.out) k hlt zeroRec
      have hat := RecAt.of hcell
      obtain ⟨x, hx⟩ : ∃ x, x = rs[k] := ⟨_, rfl⟩
      rw [← hx] at hC hat
      obtain ⟨P, hP⟩ : ∃ P, ad.add (k * 7) = P := ⟨_, rfl⟩
      rw [hP] at hat
      obtain ⟨g0, o0, q0⟩ := P
      obtain ⟨n1, hn1⟩ : ∃ n, n = x.set.length := ⟨_, rfl⟩
      obtain ⟨n2, hn2⟩ : ∃ n, n = x.prs.length := ⟨_, rfl⟩
      rw [← hn1, ← hn2] at hat
      have HAT := Aside0.mk hat
      have HNN := Aside0.mk (And.intro hn1 hn2)
      have HC := Aside0.mk hC
      obtain ⟨r, hr⟩ := bool_of (MayR x)
      have HRM := Aside0.mk hr
      have hkI : (k : Int) < rs.length := by omega
      have hk0 : (0 : Int) ≤ (k : Int) := by omega
      have hq2 : (r == r) = true := by simp
      have HM1 : Aside0 (∀ w', HeldB wr w' → Calls Try.prog 33 #[.agg #[.int .i64 x.k, .int .i64 x.p, .int .i64 x.s, .int .i64 x.a, .int .i64 x.r, .slice A1 n1 c1, .slice A2 n2 c2]] w' fun e w'' => e = .returned (.bool r) ∧ HeldB wr w'') := ⟨fun w' hw => by
        rw [HNN.out.1, HNN.out.2]
        exact (mayRec x A1 A2 c1 c2 w' (HC.out.below hw) r HRM.out).mono (fun e w'' h => ⟨h.1, hw.then_ h.2⟩)⟩
      have HM2 : Aside0 (∀ w', HeldB wr w' → Calls Try.prog 37 #[.agg #[.int .i64 x.k, .int .i64 x.p, .int .i64 x.s, .int .i64 x.a, .int .i64 x.r, .slice A1 n1 c1, .slice A2 n2 c2]] w' fun e w'' => e = .returned (.bool r) ∧ HeldB wr w'') := ⟨fun w' hw => by
        rw [HNN.out.1, HNN.out.2]
        exact (refMayRec x A1 A2 c1 c2 w' (HC.out.below hw) r HRM.out).mono (fun e w'' h => ⟨h.1, hw.then_ h.2⟩)⟩
      have HK0 : Aside0 (∀ w', HeldB wr w' → w'.cell? ⟨g0, o0, q0⟩ = some (.int .i64 x.k) ∧ w'.cell? ⟨g0, o0 + 1, none⟩ = some (.int .i64 x.p) ∧ w'.cell? ⟨g0, o0 + 2, none⟩ = some (.int .i64 x.s) ∧ w'.cell? ⟨g0, o0 + 3, none⟩ = some (.int .i64 x.a) ∧ w'.cell? ⟨g0, o0 + 4, none⟩ = some (.int .i64 x.r) ∧ w'.cell? ⟨g0, o0 + 5, none⟩ = some (.slice A1 n1 c1) ∧ w'.cell? ⟨g0, o0 + 6, none⟩ = some (.slice A2 n2 c2)) := ⟨fun w' hw => by
        obtain ⟨f0, f1, f2, f3, f4, f5, f6⟩ := HAT.out.below hw
        exact ⟨f0, f1, f2, f3, f4, f5, f6⟩⟩
      have hh0 : HeldB wr wr := Below.refl _ _
      have hhd : ∀ w', HeldB wr w' → HeldB wr w'.drew := fun w' h => h.then_ ⟨rfl, rfl, rfl, Nat.le_refl _, fun _ _ => rfl⟩
      clear hx hn1 hn2 hC hcell hr hat
      go_wp2_with fail
      go_region_held_law (fun w' => w'.cell? ⟨g0, o0, q0⟩ = some (.int .i64 x.k) ∧ w'.cell? ⟨g0, o0 + 1, none⟩ = some (.int .i64 x.p) ∧ w'.cell? ⟨g0, o0 + 2, none⟩ = some (.int .i64 x.s) ∧ w'.cell? ⟨g0, o0 + 3, none⟩ = some (.int .i64 x.a) ∧ w'.cell? ⟨g0, o0 + 4, none⟩ = some (.int .i64 x.r) ∧ w'.cell? ⟨g0, o0 + 5, none⟩ = some (.slice A1 n1 c1) ∧ w'.cell? ⟨g0, o0 + 6, none⟩ = some (.slice A2 n2 c2)) (first | assumption | exact HK0.out _ (by first | assumption | exact hhd _ hh0))
       (first
        | (go_at_call 33; ((with_reducible refine (HM1.out _ (by first | assumption | exact hhd _ hh0)).mono ?_); rintro e w6 ⟨rfl, hH6⟩))
        | (go_at_call 37; ((with_reducible refine (HM2.out _ (by first | assumption | exact hhd _ hh0)).mono ?_); rintro e w7 ⟨rfl, hH7⟩)))
      all_goals
        have HBn := Aside0.mk (two_andj _ _ _ HB.out hH7)
        have HOn := Aside0.mk (HO.out.below hH7)
        clear hH6 hH7 hh0 hhd
        go_wp2_with fail
        go_roundg (rs.length - (k + 1))
        case measure => omega
        case rel => exact ⟨k + 1, by omega, by go_num, rfl, HOn, HBn⟩
    · obtain rfl : k = rs.length := by omega
      go_wp2_with fail
      refine (overBytes _ X W.heap.size wr HO.out HB.out.size (by have := HXL.out; omega)).mono ?_
      rintro e w6 ⟨rfl, hg6⟩
      have HB6 := Aside0.mk (HB.out.grown hg6 HB.out.size HO.out.base_)
      clear hg6 HB HO
      go_wp2_with fail
      refine (layM A0 c0 rs w6 (Kd.C_below HR0.out HB6.out) (by have := HT0.out; omega)).mono ?_
      rintro e w7 ⟨v7, X7, rfl, hO7, HX7, hb7⟩
      obtain ⟨A7, c7, rfl, _, hr7⟩ := hO7.reads
      have HR7 := Aside0.mk hr7
      have HB7 := Aside0.mk (two_andj _ _ _ HB6.out hb7)
      clear hb7 hO7 hr7 HB6
      go_wp2_with fail
      refine (refLay A0 c0 rs w7 (Kd.C_below HR0.out HB7.out) (by have := HT0.out; omega)).mono ?_
      rintro e w8 ⟨v8, X8, rfl, hO8, HX8, hb8⟩
      obtain ⟨A8, c8, rfl, _, hr8⟩ := hO8.reads
      have HR8 := Aside0.mk hr8
      have HR78 := Aside0.mk (Kd.C_below HR7.out hb8)
      have HB8 := Aside0.mk (two_andj _ _ _ HB7.out hb8)
      clear hb8 hO8 hr8 HB7 HR7
      go_wp2_with fail
      refine (sameBytes A7 c7 X7 A8 c8 X8 w8 HR78.out HR8.out true (by rw [HX7.out, HX8.out]; simp)).mono ?_
      rintro e w9 ⟨rfl, hb9⟩
      have HB9 := Aside0.mk (two_andj _ _ _ HB8.out hb9)
      clear hb9 HB8
      go_wp2_with fail
      refine (recSame A0 c0 rs A0 c0 rs w9 (Kd.C_below HR0.out HB9.out) (Kd.C_below HR0.out HB9.out) (by have := HT0.out; omega) true (by simp)).mono ?_
      rintro e wa ⟨rfl, hba⟩
      have HBa := Aside0.mk (two_andj _ _ _ HB9.out hba)
      clear hba HB9
      go_wp2_with fail
      refine (awake15 _).mono ?_
      rintro e wb ⟨rfl, hbb⟩
      have HBb := Aside0.mk (two_andj _ _ _ HBa.out hbb)
      clear hbb
      go_wp2_with fail
      go_ret
      exact ⟨rfl, HBb.out⟩
end Go.Proofs.Ytkgbcoijkmlmnaa.K
