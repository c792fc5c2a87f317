/- Records are held against one another. WRITTEN BY wip/gen_rsame.py. -/
import Derived.Test.YtkgbcoijkmlmnaaR6
import Derived.Test.YtkgbcoijkmlmnaaKI
set_option linter.unusedVariables false
set_option linter.unusedSimpArgs false
set_option maxRecDepth 100000
namespace Go.Proofs.Ytkgbcoijkmlmnaa.K
open Go.RowKit Go.Proofs.YtkgbcoijkmlmnaaW.PrintWords Go.Proofs.YtkgbcoijkmlmnaaW.PrintLast Go.Proofs.YtkgbcoijkmlmnaaW.PrintMore Go.Proofs.Ytkgbcoijkmlmnaa.U Go.Proofs.Ytkgbcoijkmlmnaa.T
attribute [local go_sem high] eqA_pair

set_option maxHeartbeats 800000 in
theorem eqInts (A0 : Option Addr) (c0 : Nat) (l0 : List Int) (A1 : Option Addr) (c1 : Nat) (l1 : List Int) (w : World) (hr0 : Kd.C (Kd.int .i64) w A0 l0.length l0) (hr1 : Kd.C (Kd.int .i64) w A1 l1.length l1) (r : Bool) (hr : r = decide (l0 = l1)) :
    Calls Try.prog 91 #[.slice A0 l0.length c0, .slice A1 l1.length c1] w fun e w' => e = .returned (.bool r) ∧ Below w.heap.size w w' := by
  have HR := Aside0.mk hr
  have HR0 := Aside0.mk hr0
  have HR1 := Aside0.mk hr1
  have hm0 := Kd.C_max hr0
  clear hr hr0 hr1
  by_cases hl : l0.length = l1.length
  · have HL := Aside0.mk hl
    have hb0 : (l0.length == l1.length) = true := by simpa using hl
    have hb1 : ((l0.length : Int) == (l1.length : Int)) = true := by simp [hl]
    have hb2 : ((l0.length : Int) != (l1.length : Int)) = false := by simp [hl]
    clear hl
    go_enter Try.func91, Try.ntmps91
    go_wp2_with fail
    go_loopg [13] l0.length (fun kq v5 w' => ∃ k : Nat, k + kq = l0.length ∧ v5 = .int .i64 k ∧ Aside0 (l0.take k = l1.take k) ∧ Drawn0 w w')
    case atStart => exact ⟨0, by omega, rfl, ⟨by simp⟩, Drawn0.refl _⟩
    case round =>
      obtain ⟨k, hk, rfl, HT, ⟨m1, rfl⟩⟩ := hrel
      clear hb0 hb1 hb2
      by_cases hlt : k < l0.length
      · have hlt1 : (k : Int) < (l1.length : Int) := by have := HL.out; omega
        have hlt0 : (k : Int) < (l0.length : Int) := by omega
        obtain ⟨ad0, e0, hx0⟩ := Kd.at_int HR0.out (k : Int) (by omega) hlt0
        obtain ⟨ad1, e1, hx1⟩ := Kd.at_int HR1.out (k : Int) (by omega) hlt1
        cases e0
        cases e1
        rw [Int.toNat_natCast] at hx0 hx1
        obtain ⟨a, ha⟩ : ∃ a, a = rd l0 k := ⟨_, rfl⟩
        obtain ⟨b, hb⟩ : ∃ b, b = rd l1 k := ⟨_, rfl⟩
        rw [← ha] at hx0
        rw [← hb] at hx1
        have HA := Aside0.mk ha
        have HB := Aside0.mk hb
        clear ha hb
        have g0 : l0.take (k + 1) = l0.take k ++ [a] := by
          rw [List.take_succ_eq_append_getElem hlt, HA.out]
          simp [rd, List.getD_eq_getElem?_getD, hlt]
        have hk1 : k < l1.length := by omega
        have g1 : l1.take (k + 1) = l1.take k ++ [b] := by
          rw [List.take_succ_eq_append_getElem hk1, HB.out]
          simp [rd, List.getD_eq_getElem?_getD, hk1]
        have G0 := Aside0.mk g0
        have G1 := Aside0.mk g1
        clear g0 g1
        by_cases hab : a = b
        · subst hab
          have hne : (a != a) = false := by simp
          go_wp2_with fail
          go_quiet (fail)
          go_wp2_with fail
          go_roundg (l0.length - (k + 1))
          case measure => omega
          case rel => exact ⟨k + 1, by omega, by go_num, ⟨by rw [G0.out, G1.out, HT.out]⟩, by repeat (first | exact Drawn0.refl _ | apply Drawn0.step)⟩
        · have hne : (a != b) = true := by simpa using hab
          have hrf : r = false := by
            rw [HR.out]
            refine decide_eq_false fun h => hab ?_
            have h2 := G0.out
            rw [h, G1.out, ← h, HT.out] at h2
            have h3 := List.append_cancel_left h2
            simpa using h3.symm
          have HRF := Aside0.mk hrf
          clear hab hrf
          go_wp2_with fail
          go_quiet (fail)
          go_wp2_with fail
          go_ret
          exact ⟨by rw [HRF.out]; rfl, (Drawn0.step (Drawn0.step (Drawn0.refl w) m1) _).below⟩
      · go_wp2_with fail
        go_ret
        refine ⟨?_, (Drawn0.step (Drawn0.refl w) m1).below⟩
        rw [HR.out]
        have h2 := HT.out
        rw [List.take_of_length_le (by omega), List.take_of_length_le (by have := HL.out; omega)] at h2
        rw [decide_eq_true h2]
        rfl
  · have hb0 : (l0.length == l1.length) = false := by simpa using hl
    have hb1 : ((l0.length : Int) == (l1.length : Int)) = false := by simpa using fun h : (l0.length : Int) = l1.length => hl (by omega)
    have hb2 : ((l0.length : Int) != (l1.length : Int)) = true := by simpa using fun h : (l0.length : Int) = l1.length => hl (by omega)
    have hrf : r = false := by
      rw [HR.out]
      exact decide_eq_false fun h => hl (by rw [h])
    have HRF := Aside0.mk hrf
    clear hl hrf
    go_enter Try.func91, Try.ntmps91
    go_wp2_with fail
    go_ret
    exact ⟨by rw [HRF.out]; rfl, Below.refl _ _⟩


set_option maxHeartbeats 800000 in
theorem eqPairs (A0 : Option Addr) (c0 : Nat) (l0 : List PairD) (A1 : Option Addr) (c1 : Nat) (l1 : List PairD) (w : World) (hr0 : Kd.C kPair w A0 l0.length l0) (hr1 : Kd.C kPair w A1 l1.length l1) (r : Bool) (hr : r = true ↔ l0 = l1) :
    Calls Try.prog 97 #[.slice A0 l0.length c0, .slice A1 l1.length c1] w fun e w' => e = .returned (.bool r) ∧ Below w.heap.size w w' := by
  have HR := Aside0.mk hr
  have HR0 := Aside0.mk hr0
  have HR1 := Aside0.mk hr1
  have hm0 := Kd.C_max hr0
  clear hr hr0 hr1
  by_cases hl : l0.length = l1.length
  · have HL := Aside0.mk hl
    have hb0 : (l0.length == l1.length) = true := by simpa using hl
    have hb1 : ((l0.length : Int) == (l1.length : Int)) = true := by simp [hl]
    have hb2 : ((l0.length : Int) != (l1.length : Int)) = false := by simp [hl]
    clear hl
    have hu := Try.underlying114
    go_enter Try.func97, Try.ntmps97
    go_wp2_with fail
    go_loopg [13] l0.length (fun kq v5 w' => ∃ k : Nat, k + kq = l0.length ∧ v5 = .int .i64 k ∧ Aside0 (l0.take k = l1.take k) ∧ Drawn0 w w')
    case atStart => exact ⟨0, by omega, rfl, ⟨by simp⟩, Drawn0.refl _⟩
    case round =>
      obtain ⟨k, hk, rfl, HT, ⟨m1, rfl⟩⟩ := hrel
      clear hb0 hb1 hb2
      by_cases hlt : k < l0.length
      · have hlt1 : k < l1.length := by have := HL.out; omega
        obtain ⟨ad0, rfl, hx0, hy0⟩ := at_pair2 HR0.out k hlt
        obtain ⟨ad1, rfl, hx1, hy1⟩ := at_pair2 HR1.out k hlt1
        have hlt2 : (k : Int) < (l1.length : Int) := by omega
        obtain ⟨p, hp⟩ : ∃ p, p = l0[k] := ⟨_, rfl⟩
        obtain ⟨q, hq⟩ : ∃ q, q = l1[k] := ⟨_, rfl⟩
        rw [← hp] at hx0 hy0
        rw [← hq] at hx1 hy1
        have HP := Aside0.mk hp
        have HQ := Aside0.mk hq
        clear hp hq
        have g0 : l0.take (k + 1) = l0.take k ++ [p] := by rw [List.take_succ_eq_append_getElem hlt, HP.out]
        have g1 : l1.take (k + 1) = l1.take k ++ [q] := by rw [List.take_succ_eq_append_getElem hlt1, HQ.out]
        have G0 := Aside0.mk g0
        have G1 := Aside0.mk g1
        clear g0 g1
        cases hab : eqP p.key p.val q.key q.val with
        | true =>
          have HPQ := Aside0.mk ((eqP_iff p q).1 hab)
          go_wp2_with fail
          go_quiet (fail)
          go_wp2_with fail
          go_roundg (l0.length - (k + 1))
          case measure => omega
          case rel => exact ⟨k + 1, by omega, by go_num, ⟨by rw [G0.out, G1.out, HT.out, HPQ.out]⟩, by repeat (first | exact Drawn0.refl _ | apply Drawn0.step)⟩
        | false =>
          have hrf : r = false := by
            cases r with
            | false => rfl
            | true =>
              have h := HR.out.1 rfl
              have h2 := G0.out
              have h4 := G1.out
              rw [← h, h2] at h4
              have h3 := List.append_cancel_left h4
              have h5 : p = q := by simpa using h3
              rw [(eqP_iff p q).2 h5] at hab
              cases hab
          have HRF := Aside0.mk hrf
          clear hrf
          go_wp2_with fail
          go_quiet (fail)
          go_wp2_with fail
          go_ret
          exact ⟨by rw [HRF.out]; rfl, (Drawn0.step (Drawn0.step (Drawn0.refl w) m1) _).below⟩
      · go_wp2_with fail
        go_ret
        refine ⟨?_, (Drawn0.step (Drawn0.refl w) m1).below⟩
        have h2 := HT.out
        rw [List.take_of_length_le (by omega), List.take_of_length_le (by have := HL.out; omega)] at h2
        rw [HR.out.2 h2]
        rfl
  · have hb0 : (l0.length == l1.length) = false := by simpa using hl
    have hb1 : ((l0.length : Int) == (l1.length : Int)) = false := by simpa using fun h : (l0.length : Int) = l1.length => hl (by omega)
    have hb2 : ((l0.length : Int) != (l1.length : Int)) = true := by simpa using fun h : (l0.length : Int) = l1.length => hl (by omega)
    have hrf : r = false := by
      cases r with
      | true => exact absurd (by rw [HR.out.1 rfl]) hl
      | false => rfl
    have HRF := Aside0.mk hrf
    clear hl hrf
    go_enter Try.func97, Try.ntmps97
    go_wp2_with fail
    go_ret
    exact ⟨by rw [HRF.out]; rfl, Below.refl _ _⟩

theorem pairSame (A0 : Option Addr) (c0 : Nat) (l0 : List PairD) (A1 : Option Addr) (c1 : Nat) (l1 : List PairD) (w : World) (hr0 : Kd.C kPair w A0 l0.length l0) (hr1 : Kd.C kPair w A1 l1.length l1) (r : Bool) (hr : r = true ↔ l0 = l1) :
    Calls Try.prog 92 #[.slice A0 l0.length c0, .slice A1 l1.length c1] w fun e w' => e = .returned (.bool r) ∧ Below w.heap.size w w' := by
  have H := Aside0.mk (eqPairs A0 c0 l0 A1 c1 l1 w hr0 hr1 r hr)
  clear hr0 hr1 hr
  go_enter Try.func92, Try.ntmps92
  go_wp2_with fail
  refine H.out.mono ?_
  rintro e w1 ⟨rfl, hb⟩
  have HB := Aside0.mk hb
  clear hb
  go_wp2_with fail
  go_ret
  exact ⟨rfl, HB.out⟩
set_option maxHeartbeats 3200000 in
theorem sameRecord (x y : RecD) (A1 A2 B1 B2 : Option Addr) (c1 c2 d1 d2 : Nat) (w : World) (hx : RecC w x A1 A2 c1 c2) (hy : RecC w y B1 B2 d1 d2) (r : Bool) (hr : r = true ↔ x = y) :
    Calls Try.prog 52 #[recV x (.slice A1 x.set.length c1) (.slice A2 x.prs.length c2), recV y (.slice B1 y.set.length d1) (.slice B2 y.prs.length d2)] w fun e w' => e = .returned (.bool r) ∧ Below w.heap.size w w' := by
  have hb1 := (Below.refl w.heap.size w).alloc (Nat.le_refl _) (.cells #[.int .i64 x.k, .int .i64 x.p, .int .i64 x.s, .int .i64 x.a, .int .i64 x.r, .slice A1 x.set.length c1, .slice A2 x.prs.length c2] 64)
  have hb2 := hb1.alloc hb1.size (.cells #[.int .i64 y.k, .int .i64 y.p, .int .i64 y.s, .int .i64 y.a, .int .i64 y.r, .slice B1 y.set.length d1, .slice B2 y.prs.length d2] 64)
  have hq1 : ((w.alloc (.cells #[.int .i64 x.k, .int .i64 x.p, .int .i64 x.s, .int .i64 x.a, .int .i64 x.r, .slice A1 x.set.length c1, .slice A2 x.prs.length c2] 64)).alloc (.cells #[.int .i64 y.k, .int .i64 y.p, .int .i64 y.s, .int .i64 y.a, .int .i64 y.r, .slice B1 y.set.length d1, .slice B2 y.prs.length d2] 64)).cell? ⟨w.heap.size, 6, none⟩ = some (.slice A2 x.prs.length c2) := cell_of_blk (cs := [.int .i64 x.k, .int .i64 x.p, .int .i64 x.s, .int .i64 x.a, .int .i64 x.r, .slice A1 x.set.length c1, .slice A2 x.prs.length c2]) (alloc_keeps (alloc_at w _) _)
  have hq2 : ((w.alloc (.cells #[.int .i64 x.k, .int .i64 x.p, .int .i64 x.s, .int .i64 x.a, .int .i64 x.r, .slice A1 x.set.length c1, .slice A2 x.prs.length c2] 64)).alloc (.cells #[.int .i64 y.k, .int .i64 y.p, .int .i64 y.s, .int .i64 y.a, .int .i64 y.r, .slice B1 y.set.length d1, .slice B2 y.prs.length d2] 64)).cell? ⟨w.heap.size + 1, 6, none⟩ = some (.slice B2 y.prs.length d2) := by
    have := alloc_at (w.alloc (.cells #[.int .i64 x.k, .int .i64 x.p, .int .i64 x.s, .int .i64 x.a, .int .i64 x.r, .slice A1 x.set.length c1, .slice A2 x.prs.length c2] 64)) (.cells ([.int .i64 y.k, .int .i64 y.p, .int .i64 y.s, .int .i64 y.a, .int .i64 y.r, .slice B1 y.set.length d1, .slice B2 y.prs.length d2] : List Value).toArray 64)
    rw [World.size_alloc] at this
    exact cell_of_blk this
  have HQ := Aside0.mk (And.intro hq1 hq2)
  have HX := Aside0.mk (hx.below hb2)
  have HY := Aside0.mk (hy.below hb2)
  have HB := Aside0.mk hb2
  have HR := Aside0.mk hr
  clear hx hy hb1 hb2 hr hq1 hq2
  unfold recV
  by_cases h0 : x.k = y.k
  case' neg =>
    have g0 : (x.k == y.k) = false := by simpa using h0
    have hrf : r = false := by
      cases r with
      | false => rfl
      | true => exact absurd (by rw [HR.out.1 rfl]) h0
    subst hrf
    clear h0
    go_enter Try.func52, Try.ntmps52
    go_wp2_with fail
    go_ret
    exact ⟨rfl, HB.out⟩
  have g0 : (x.k == y.k) = true := by simpa using h0
  have H0 := Aside0.mk h0
  clear h0
  by_cases h1 : x.p = y.p
  case' neg =>
    have g1 : (x.p == y.p) = false := by simpa using h1
    have hrf : r = false := by
      cases r with
      | false => rfl
      | true => exact absurd (by rw [HR.out.1 rfl]) h1
    subst hrf
    clear h1
    go_enter Try.func52, Try.ntmps52
    go_wp2_with fail
    go_ret
    exact ⟨rfl, HB.out⟩
  have g1 : (x.p == y.p) = true := by simpa using h1
  have H1 := Aside0.mk h1
  clear h1
  by_cases h2 : x.s = y.s
  case' neg =>
    have g2 : (x.s == y.s) = false := by simpa using h2
    have hrf : r = false := by
      cases r with
      | false => rfl
      | true => exact absurd (by rw [HR.out.1 rfl]) h2
    subst hrf
    clear h2
    go_enter Try.func52, Try.ntmps52
    go_wp2_with fail
    go_ret
    exact ⟨rfl, HB.out⟩
  have g2 : (x.s == y.s) = true := by simpa using h2
  have H2 := Aside0.mk h2
  clear h2
  by_cases h3 : x.a = y.a
  case' neg =>
    have g3 : (x.a == y.a) = false := by simpa using h3
    have hrf : r = false := by
      cases r with
      | false => rfl
      | true => exact absurd (by rw [HR.out.1 rfl]) h3
    subst hrf
    clear h3
    go_enter Try.func52, Try.ntmps52
    go_wp2_with fail
    go_ret
    exact ⟨rfl, HB.out⟩
  have g3 : (x.a == y.a) = true := by simpa using h3
  have H3 := Aside0.mk h3
  clear h3
  by_cases h4 : x.r = y.r
  case' neg =>
    have g4 : (x.r == y.r) = false := by simpa using h4
    have hrf : r = false := by
      cases r with
      | false => rfl
      | true => exact absurd (by rw [HR.out.1 rfl]) h4
    subst hrf
    clear h4
    go_enter Try.func52, Try.ntmps52
    go_wp2_with fail
    go_ret
    exact ⟨rfl, HB.out⟩
  have g4 : (x.r == y.r) = true := by simpa using h4
  have H4 := Aside0.mk h4
  clear h4
  have hxy : x = y ↔ x.set = y.set ∧ x.prs = y.prs := by
    have h0 := H0.out
    have h1 := H1.out
    have h2 := H2.out
    have h3 := H3.out
    have h4 := H4.out
    obtain ⟨k, p, s, a, r, set, prs⟩ := x
    obtain ⟨k', p', s', a', r', set', prs'⟩ := y
    simp only at h0 h1 h2 h3 h4
    subst h0; subst h1; subst h2; subst h3; subst h4
    simp
  have HXY := Aside0.mk hxy
  clear hxy
  go_enter Try.func52, Try.ntmps52
  go_wp2_with fail
  obtain ⟨r1, hr1⟩ : ∃ r1, r1 = decide (x.set = y.set) := ⟨_, rfl⟩
  refine (sameInts A1 c1 x.set B1 d1 y.set _ HX.out.s HY.out.s r1 hr1).mono ?_
  rintro e w1 ⟨rfl, hb1⟩
  have HB1 := Aside0.mk (below_then HB.out HB.out.size hb1)
  have HX1 := Aside0.mk (HX.out.below hb1)
  have HY1 := Aside0.mk (HY.out.below hb1)
  have HR1 := Aside0.mk hr1
  have c9 : w1.cell? ⟨w.heap.size, 6, none⟩ = some (.slice A2 x.prs.length c2) := (hb1.cell (World.block_lt_of_cell? _ _ HQ.out.1)).trans HQ.out.1
  have d9 : w1.cell? ⟨w.heap.size + 1, 6, none⟩ = some (.slice B2 y.prs.length d2) := (hb1.cell (World.block_lt_of_cell? _ _ HQ.out.2)).trans HQ.out.2
  clear hb1 hr1
  cases r1
  · have hrf : r = false := by
      cases r with
      | false => rfl
      | true => exact absurd (HXY.out.1 (HR.out.1 rfl)).1 (of_decide_eq_false HR1.out.symm)
    subst hrf
    go_wp2_with fail
    go_ret
    exact ⟨rfl, HB1.out⟩
  · have hr2 : r = true ↔ x.prs = y.prs := by
      rw [HR.out, HXY.out]
      exact ⟨fun h => h.2, fun h => ⟨of_decide_eq_true HR1.out.symm, h⟩⟩
    have HR2 := Aside0.mk hr2
    clear hr2
    go_wp2_with fail
    refine (samePairs A2 c2 x.prs B2 d2 y.prs w1 HX1.out.p HY1.out.p r HR2.out).mono ?_
    rintro e w2 ⟨rfl, hb2⟩
    have HB2 := Aside0.mk (below_then HB1.out HB1.out.size hb2)
    clear hb2
    go_wp2_with fail
    go_ret
    exact ⟨rfl, HB2.out⟩
set_option maxHeartbeats 3200000 in
theorem sameRecM (x y : RecD) (A1 A2 B1 B2 : Option Addr) (c1 c2 d1 d2 : Nat) (w : World) (hx : RecC w x A1 A2 c1 c2) (hy : RecC w y B1 B2 d1 d2) (r : Bool) (hr : r = true ↔ x = y) :
    Calls Try.prog 69 #[recV x (.slice A1 x.set.length c1) (.slice A2 x.prs.length c2), recV y (.slice B1 y.set.length d1) (.slice B2 y.prs.length d2)] w fun e w' => e = .returned (.bool r) ∧ Below w.heap.size w w' := by
  have hb1 := (Below.refl w.heap.size w).alloc (Nat.le_refl _) (.cells #[.int .i64 x.k, .int .i64 x.p, .int .i64 x.s, .int .i64 x.a, .int .i64 x.r, .slice A1 x.set.length c1, .slice A2 x.prs.length c2] 64)
  have hb2 := hb1.alloc hb1.size (.cells #[.int .i64 y.k, .int .i64 y.p, .int .i64 y.s, .int .i64 y.a, .int .i64 y.r, .slice B1 y.set.length d1, .slice B2 y.prs.length d2] 64)
  have hq1 : ((w.alloc (.cells #[.int .i64 x.k, .int .i64 x.p, .int .i64 x.s, .int .i64 x.a, .int .i64 x.r, .slice A1 x.set.length c1, .slice A2 x.prs.length c2] 64)).alloc (.cells #[.int .i64 y.k, .int .i64 y.p, .int .i64 y.s, .int .i64 y.a, .int .i64 y.r, .slice B1 y.set.length d1, .slice B2 y.prs.length d2] 64)).cell? ⟨w.heap.size, 6, none⟩ = some (.slice A2 x.prs.length c2) := cell_of_blk (cs := [.int .i64 x.k, .int .i64 x.p, .int .i64 x.s, .int .i64 x.a, .int .i64 x.r, .slice A1 x.set.length c1, .slice A2 x.prs.length c2]) (alloc_keeps (alloc_at w _) _)
  have hq2 : ((w.alloc (.cells #[.int .i64 x.k, .int .i64 x.p, .int .i64 x.s, .int .i64 x.a, .int .i64 x.r, .slice A1 x.set.length c1, .slice A2 x.prs.length c2] 64)).alloc (.cells #[.int .i64 y.k, .int .i64 y.p, .int .i64 y.s, .int .i64 y.a, .int .i64 y.r, .slice B1 y.set.length d1, .slice B2 y.prs.length d2] 64)).cell? ⟨w.heap.size + 1, 6, none⟩ = some (.slice B2 y.prs.length d2) := by
    have := alloc_at (w.alloc (.cells #[.int .i64 x.k, .int .i64 x.p, .int .i64 x.s, .int .i64 x.a, .int .i64 x.r, .slice A1 x.set.length c1, .slice A2 x.prs.length c2] 64)) (.cells ([.int .i64 y.k, .int .i64 y.p, .int .i64 y.s, .int .i64 y.a, .int .i64 y.r, .slice B1 y.set.length d1, .slice B2 y.prs.length d2] : List Value).toArray 64)
    rw [World.size_alloc] at this
    exact cell_of_blk this
  have HQ := Aside0.mk (And.intro hq1 hq2)
  have HX := Aside0.mk (hx.below hb2)
  have HY := Aside0.mk (hy.below hb2)
  have HB := Aside0.mk hb2
  have HR := Aside0.mk hr
  clear hx hy hb1 hb2 hr hq1 hq2
  unfold recV
  by_cases h0 : x.k = y.k
  case' neg =>
    have g0 : (x.k == y.k) = false := by simpa using h0
    have hrf : r = false := by
      cases r with
      | false => rfl
      | true => exact absurd (by rw [HR.out.1 rfl]) h0
    subst hrf
    clear h0
    go_enter Try.func69, Try.ntmps69
    go_wp2_with fail
    go_ret
    exact ⟨rfl, HB.out⟩
  have g0 : (x.k == y.k) = true := by simpa using h0
  have H0 := Aside0.mk h0
  clear h0
  by_cases h1 : x.p = y.p
  case' neg =>
    have g1 : (x.p == y.p) = false := by simpa using h1
    have hrf : r = false := by
      cases r with
      | false => rfl
      | true => exact absurd (by rw [HR.out.1 rfl]) h1
    subst hrf
    clear h1
    go_enter Try.func69, Try.ntmps69
    go_wp2_with fail
    go_ret
    exact ⟨rfl, HB.out⟩
  have g1 : (x.p == y.p) = true := by simpa using h1
  have H1 := Aside0.mk h1
  clear h1
  by_cases h2 : x.s = y.s
  case' neg =>
    have g2 : (x.s == y.s) = false := by simpa using h2
    have hrf : r = false := by
      cases r with
      | false => rfl
      | true => exact absurd (by rw [HR.out.1 rfl]) h2
    subst hrf
    clear h2
    go_enter Try.func69, Try.ntmps69
    go_wp2_with fail
    go_ret
    exact ⟨rfl, HB.out⟩
  have g2 : (x.s == y.s) = true := by simpa using h2
  have H2 := Aside0.mk h2
  clear h2
  by_cases h3 : x.a = y.a
  case' neg =>
    have g3 : (x.a == y.a) = false := by simpa using h3
    have hrf : r = false := by
      cases r with
      | false => rfl
      | true => exact absurd (by rw [HR.out.1 rfl]) h3
    subst hrf
    clear h3
    go_enter Try.func69, Try.ntmps69
    go_wp2_with fail
    go_ret
    exact ⟨rfl, HB.out⟩
  have g3 : (x.a == y.a) = true := by simpa using h3
  have H3 := Aside0.mk h3
  clear h3
  by_cases h4 : x.r = y.r
  case' neg =>
    have g4 : (x.r == y.r) = false := by simpa using h4
    have hrf : r = false := by
      cases r with
      | false => rfl
      | true => exact absurd (by rw [HR.out.1 rfl]) h4
    subst hrf
    clear h4
    go_enter Try.func69, Try.ntmps69
    go_wp2_with fail
    go_ret
    exact ⟨rfl, HB.out⟩
  have g4 : (x.r == y.r) = true := by simpa using h4
  have H4 := Aside0.mk h4
  clear h4
  have hxy : x = y ↔ x.set = y.set ∧ x.prs = y.prs := by
    have h0 := H0.out
    have h1 := H1.out
    have h2 := H2.out
    have h3 := H3.out
    have h4 := H4.out
    obtain ⟨k, p, s, a, r, set, prs⟩ := x
    obtain ⟨k', p', s', a', r', set', prs'⟩ := y
    simp only at h0 h1 h2 h3 h4
    subst h0; subst h1; subst h2; subst h3; subst h4
    simp
  have HXY := Aside0.mk hxy
  clear hxy
  go_enter Try.func69, Try.ntmps69
  go_wp2_with fail
  obtain ⟨r1, hr1⟩ : ∃ r1, r1 = decide (x.set = y.set) := ⟨_, rfl⟩
  refine (eqInts A1 c1 x.set B1 d1 y.set _ HX.out.s HY.out.s r1 hr1).mono ?_
  rintro e w1 ⟨rfl, hb1⟩
  have HB1 := Aside0.mk (below_then HB.out HB.out.size hb1)
  have HX1 := Aside0.mk (HX.out.below hb1)
  have HY1 := Aside0.mk (HY.out.below hb1)
  have HR1 := Aside0.mk hr1
  have c9 : w1.cell? ⟨w.heap.size, 6, none⟩ = some (.slice A2 x.prs.length c2) := (hb1.cell (World.block_lt_of_cell? _ _ HQ.out.1)).trans HQ.out.1
  have d9 : w1.cell? ⟨w.heap.size + 1, 6, none⟩ = some (.slice B2 y.prs.length d2) := (hb1.cell (World.block_lt_of_cell? _ _ HQ.out.2)).trans HQ.out.2
  clear hb1 hr1
  cases r1
  · have hrf : r = false := by
      cases r with
      | false => rfl
      | true => exact absurd (HXY.out.1 (HR.out.1 rfl)).1 (of_decide_eq_false HR1.out.symm)
    subst hrf
    go_wp2_with fail
    go_ret
    exact ⟨rfl, HB1.out⟩
  · have hr2 : r = true ↔ x.prs = y.prs := by
      rw [HR.out, HXY.out]
      exact ⟨fun h => h.2, fun h => ⟨of_decide_eq_true HR1.out.symm, h⟩⟩
    have HR2 := Aside0.mk hr2
    clear hr2
    go_wp2_with fail
    refine (pairSame A2 c2 x.prs B2 d2 y.prs w1 HX1.out.p HY1.out.p r HR2.out).mono ?_
    rintro e w2 ⟨rfl, hb2⟩
    have HB2 := Aside0.mk (below_then HB1.out HB1.out.size hb2)
    clear hb2
    go_wp2_with fail
    go_ret
    exact ⟨rfl, HB2.out⟩
set_option maxHeartbeats 6400000 in
theorem sameRecords (A0 : Option Addr) (c0 : Nat) (l0 : List RecD) (A1' : Option Addr) (c1' : Nat) (l1 : List RecD) (w : World) (hr0 : Kd.C kRec w A0 l0.length l0) (hr1 : Kd.C kRec w A1' l1.length l1) (hmx : l0.length ≤ 1000000) (r : Bool) (hr : r = true ↔ l0 = l1) :
    Calls Try.prog 29 #[.slice A0 l0.length c0, .slice A1' l1.length c1'] w fun e w' => e = .returned (.bool r) ∧ Below w.heap.size w w' := by
  have HR := Aside0.mk hr
  have HR0 := Aside0.mk hr0
  have HR1 := Aside0.mk hr1
  clear hr hr0 hr1
  by_cases hl : l0.length = l1.length
  case' neg =>
    have hb1 : ((l0.length : Int) == (l1.length : Int)) = false := by simpa using fun h : (l0.length : Int) = l1.length => hl (by omega)
    have hb2 : ((l0.length : Int) != (l1.length : Int)) = true := by simpa using fun h : (l0.length : Int) = l1.length => hl (by omega)
    have hrf : r = false := by
      cases r with
      | false => rfl
      | true => exact absurd (by rw [HR.out.1 rfl]) hl
    subst hrf
    clear hl
    go_enter Try.func29, Try.ntmps29
    go_wp2_with fail
    go_ret
    exact ⟨rfl, Below.refl _ _⟩
  have HL := Aside0.mk hl
  have hb2 : ((l0.length : Int) != (l1.length : Int)) = false := by simp [hl]
  clear hl
  have hu := Try.underlying64
  go_enter Try.func29, Try.ntmps29
  go_wp2_with fail
  go_loopg [5] l0.length (fun kq v5 w' => ∃ k : Nat, k + kq = l0.length ∧ v5 = .int .i64 k ∧ Aside0 (l0.take k = l1.take k) ∧ Aside0 (HeldB w w'))
  case atStart => exact ⟨0, by omega, rfl, ⟨by simp⟩, ⟨Below.refl _ _⟩⟩
  case round =>
    obtain ⟨k, hk, rfl, HT, HB⟩ := hrel
    clear hb2
    by_cases hlt : k < l0.length
    case' neg =>
      obtain rfl : k = l0.length := by omega
      obtain rfl := HR.out.2 (by have h := HT.out; rw [List.take_length, List.take_of_length_le (by have := HL.out; omega)] at h; exact h)
      go_wp2_with fail
      go_ret
      exact ⟨rfl, HB.out⟩
    have hlt1 : k < l1.length := by have := HL.out; omega
    obtain ⟨ad0, A1, A2, c1, c2, rfl, hm0, hc0⟩ := at_rec (Kd.C_below HR0.out HB.out) k hlt zeroRec
    obtain ⟨ad1, B1, B2, d1, d2, rfl, hm1, hc1⟩ := at_rec (Kd.C_below HR1.out HB.out) k hlt1 zeroRec
    have hlx := RecAt.of hc0
    have hly := RecAt.of hc1
    obtain ⟨x, hx⟩ : ∃ x, x = l0[k]'hlt := ⟨_, rfl⟩
    obtain ⟨y, hy⟩ : ∃ y, y = l1[k]'hlt1 := ⟨_, rfl⟩
    rw [← hx] at hm0 hlx
    rw [← hy] at hm1 hly
    obtain ⟨P0, hP0⟩ : ∃ P, ad0.add (k * 7) = P := ⟨_, rfl⟩
    obtain ⟨P1, hP1⟩ : ∃ P, ad1.add (k * 7) = P := ⟨_, rfl⟩
    rw [hP0] at hlx
    rw [hP1] at hly
    obtain ⟨g0, o0, z0⟩ := P0
    obtain ⟨g1, o1, z1⟩ := P1
    obtain ⟨n1, hn1⟩ : ∃ n, n = x.set.length := ⟨_, rfl⟩
    obtain ⟨n2, hn2⟩ : ∃ n, n = x.prs.length := ⟨_, rfl⟩
    obtain ⟨m1, hm1'⟩ : ∃ n, n = y.set.length := ⟨_, rfl⟩
    obtain ⟨m2, hm2'⟩ : ∃ n, n = y.prs.length := ⟨_, rfl⟩
    rw [← hn1, ← hn2] at hlx
    rw [← hm1', ← hm2'] at hly
    have HLX := Aside0.mk hlx
    have HLY := Aside0.mk hly
    have HMX := Aside0.mk hm0
    have HMY := Aside0.mk hm1
    have t0 : l0.take (k + 1) = l0.take k ++ [x] := by rw [List.take_succ_eq_append_getElem hlt, hx]
    have t1 : l1.take (k + 1) = l1.take k ++ [y] := by rw [List.take_succ_eq_append_getElem hlt1, hy]
    have G0 := Aside0.mk t0
    have G1 := Aside0.mk t1
    have HNE : Aside0 (x ≠ y → r = false) := ⟨fun hne => by
      cases r with
      | false => rfl
      | true =>
        have h := HR.out.1 rfl
        subst h
        exact absurd (hx.trans hy.symm) hne⟩
    have hltI : (k : Int) < l0.length := by omega
    have hltI1 : (k : Int) < l1.length := by omega
    have hk0 : (0 : Int) ≤ (k : Int) := by omega
    obtain ⟨q, hq⟩ := bool_of (x = y)
    have HQ := Aside0.mk hq
    have HSM : Aside0 (∀ w', HeldB wr w' → Calls Try.prog 52 #[.agg #[.int .i64 x.k, .int .i64 x.p, .int .i64 x.s, .int .i64 x.a, .int .i64 x.r, .slice A1 n1 c1, .slice A2 n2 c2], .agg #[.int .i64 y.k, .int .i64 y.p, .int .i64 y.s, .int .i64 y.a, .int .i64 y.r, .slice B1 m1 d1, .slice B2 m2 d2]] w' fun e w'' => e = .returned (.bool q) ∧ HeldB wr w'') := ⟨fun w' hw => by
      rw [hn1, hn2, hm1', hm2']
      refine (sameRecord x y A1 A2 B1 B2 c1 c2 d1 d2 w' (HMX.out.below hw) (HMY.out.below hw) q HQ.out).mono ?_
      rintro e w'' ⟨rfl, hb⟩
      exact ⟨rfl, hw.then_ hb⟩⟩
    have hkeep : ∀ w', HeldB wr w' → w'.cell? ⟨g0, o0, z0⟩ = some (.int .i64 x.k) ∧ w'.cell? ⟨g0, o0 + 1, none⟩ = some (.int .i64 x.p) ∧ w'.cell? ⟨g0, o0 + 2, none⟩ = some (.int .i64 x.s) ∧ w'.cell? ⟨g0, o0 + 3, none⟩ = some (.int .i64 x.a) ∧ w'.cell? ⟨g0, o0 + 4, none⟩ = some (.int .i64 x.r) ∧ w'.cell? ⟨g0, o0 + 5, none⟩ = some (.slice A1 n1 c1) ∧ w'.cell? ⟨g0, o0 + 6, none⟩ = some (.slice A2 n2 c2) ∧ w'.cell? ⟨g1, o1, z1⟩ = some (.int .i64 y.k) ∧ w'.cell? ⟨g1, o1 + 1, none⟩ = some (.int .i64 y.p) ∧ w'.cell? ⟨g1, o1 + 2, none⟩ = some (.int .i64 y.s) ∧ w'.cell? ⟨g1, o1 + 3, none⟩ = some (.int .i64 y.a) ∧ w'.cell? ⟨g1, o1 + 4, none⟩ = some (.int .i64 y.r) ∧ w'.cell? ⟨g1, o1 + 5, none⟩ = some (.slice B1 m1 d1) ∧ w'.cell? ⟨g1, o1 + 6, none⟩ = some (.slice B2 m2 d2) := fun w' h => by
      obtain ⟨f0, f1, f2, f3, f4, f5, f6⟩ := HLX.out.below h
      obtain ⟨e0, e1, e2, e3, e4, e5, e6⟩ := HLY.out.below h
      exact ⟨f0, f1, f2, f3, f4, f5, f6, e0, e1, e2, e3, e4, e5, e6⟩
    have HK0 := Aside0.mk hkeep
    have hh0 : HeldB wr wr := Below.refl _ _
    have hhd : ∀ w', HeldB wr w' → HeldB wr w'.drew := fun w' h => h.then_ ⟨rfl, rfl, rfl, Nat.le_refl _, fun _ _ => rfl⟩
    clear hx hy hm0 hm1 hc0 hc1 t0 t1 hn1 hn2 hm1' hm2' hq hkeep hlx hly
    go_wp2_with fail
    go_region_held_law (fun w' => w'.cell? ⟨g0, o0, z0⟩ = some (.int .i64 x.k) ∧ w'.cell? ⟨g0, o0 + 1, none⟩ = some (.int .i64 x.p) ∧ w'.cell? ⟨g0, o0 + 2, none⟩ = some (.int .i64 x.s) ∧ w'.cell? ⟨g0, o0 + 3, none⟩ = some (.int .i64 x.a) ∧ w'.cell? ⟨g0, o0 + 4, none⟩ = some (.int .i64 x.r) ∧ w'.cell? ⟨g0, o0 + 5, none⟩ = some (.slice A1 n1 c1) ∧ w'.cell? ⟨g0, o0 + 6, none⟩ = some (.slice A2 n2 c2) ∧ w'.cell? ⟨g1, o1, z1⟩ = some (.int .i64 y.k) ∧ w'.cell? ⟨g1, o1 + 1, none⟩ = some (.int .i64 y.p) ∧ w'.cell? ⟨g1, o1 + 2, none⟩ = some (.int .i64 y.s) ∧ w'.cell? ⟨g1, o1 + 3, none⟩ = some (.int .i64 y.a) ∧ w'.cell? ⟨g1, o1 + 4, none⟩ = some (.int .i64 y.r) ∧ w'.cell? ⟨g1, o1 + 5, none⟩ = some (.slice B1 m1 d1) ∧ w'.cell? ⟨g1, o1 + 6, none⟩ = some (.slice B2 m2 d2)) (first | assumption | exact HK0.out _ (by first | assumption | exact hhd _ hh0))
     (first
      | (go_at_call 52; ((with_reducible refine (HSM.out _ (by first | assumption | exact hhd _ hh0)).mono ?_); rintro e w5 ⟨rfl, hH5⟩)))
    all_goals
      have HB5 : Aside0 (HeldB w w5) := ⟨HB.out.then_ hH5⟩
      clear hH5 hh0 hhd
      cases q
      · have hrf : r = false := HNE.out (fun h => by
          have := HQ.out.2 h
          cases this)
        subst hrf
        go_wp2_with fail
        go_ret
        exact ⟨rfl, HB5.out⟩
      · have HXY := Aside0.mk (HQ.out.1 rfl)
        go_wp2_with fail
        go_roundg (l0.length - (k + 1))
        case measure => omega
        case rel => exact ⟨k + 1, by omega, by go_num, ⟨by rw [G0.out, G1.out, HT.out, HXY.out]⟩, HB5⟩
set_option maxHeartbeats 6400000 in
theorem eqRecords (A0 : Option Addr) (c0 : Nat) (l0 : List RecD) (A1' : Option Addr) (c1' : Nat) (l1 : List RecD) (w : World) (hr0 : Kd.C kRec w A0 l0.length l0) (hr1 : Kd.C kRec w A1' l1.length l1) (hmx : l0.length ≤ 1000000) (r : Bool) (hr : r = true ↔ l0 = l1) :
    Calls Try.prog 68 #[.slice A0 l0.length c0, .slice A1' l1.length c1', .func (.func 69) #[] #[]] w fun e w' => e = .returned (.bool r) ∧ Below w.heap.size w w' := by
  have HR := Aside0.mk hr
  have HR0 := Aside0.mk hr0
  have HR1 := Aside0.mk hr1
  clear hr hr0 hr1
  by_cases hl : l0.length = l1.length
  case' neg =>
    have hb1 : ((l0.length : Int) == (l1.length : Int)) = false := by simpa using fun h : (l0.length : Int) = l1.length => hl (by omega)
    have hb2 : ((l0.length : Int) != (l1.length : Int)) = true := by simpa using fun h : (l0.length : Int) = l1.length => hl (by omega)
    have hrf : r = false := by
      cases r with
      | false => rfl
      | true => exact absurd (by rw [HR.out.1 rfl]) hl
    subst hrf
    clear hl
    go_enter Try.func68, Try.ntmps68
    go_wp2_with fail
    go_ret
    exact ⟨rfl, Below.refl _ _⟩
  have HL := Aside0.mk hl
  have hb2 : ((l0.length : Int) != (l1.length : Int)) = false := by simp [hl]
  clear hl
  have hu := Try.underlying64
  go_enter Try.func68, Try.ntmps68
  go_wp2_with fail
  go_loopg [17] l0.length (fun kq v5 w' => ∃ k : Nat, k + kq = l0.length ∧ v5 = .int .i64 k ∧ Aside0 (l0.take k = l1.take k) ∧ Aside0 (HeldB w w'))
  case atStart => exact ⟨0, by omega, rfl, ⟨by simp⟩, ⟨Below.refl _ _⟩⟩
  case round =>
    obtain ⟨k, hk, rfl, HT, HB⟩ := hrel
    clear hb2
    by_cases hlt : k < l0.length
    case' neg =>
      obtain rfl : k = l0.length := by omega
      obtain rfl := HR.out.2 (by have h := HT.out; rw [List.take_length, List.take_of_length_le (by have := HL.out; omega)] at h; exact h)
      go_wp2_with fail
      go_ret
      exact ⟨rfl, HB.out⟩
    have hlt1 : k < l1.length := by have := HL.out; omega
    obtain ⟨ad0, A1, A2, c1, c2, rfl, hm0, hc0⟩ := at_rec (Kd.C_below HR0.out HB.out) k hlt zeroRec
    obtain ⟨ad1, B1, B2, d1, d2, rfl, hm1, hc1⟩ := at_rec (Kd.C_below HR1.out HB.out) k hlt1 zeroRec
    have hlx := RecAt.of hc0
    have hly := RecAt.of hc1
    obtain ⟨x, hx⟩ : ∃ x, x = l0[k]'hlt := ⟨_, rfl⟩
    obtain ⟨y, hy⟩ : ∃ y, y = l1[k]'hlt1 := ⟨_, rfl⟩
    rw [← hx] at hm0 hlx
    rw [← hy] at hm1 hly
    obtain ⟨P0, hP0⟩ : ∃ P, ad0.add (k * 7) = P := ⟨_, rfl⟩
    obtain ⟨P1, hP1⟩ : ∃ P, ad1.add (k * 7) = P := ⟨_, rfl⟩
    rw [hP0] at hlx
    rw [hP1] at hly
    obtain ⟨g0, o0, z0⟩ := P0
    obtain ⟨g1, o1, z1⟩ := P1
    obtain ⟨n1, hn1⟩ : ∃ n, n = x.set.length := ⟨_, rfl⟩
    obtain ⟨n2, hn2⟩ : ∃ n, n = x.prs.length := ⟨_, rfl⟩
    obtain ⟨m1, hm1'⟩ : ∃ n, n = y.set.length := ⟨_, rfl⟩
    obtain ⟨m2, hm2'⟩ : ∃ n, n = y.prs.length := ⟨_, rfl⟩
    rw [← hn1, ← hn2] at hlx
    rw [← hm1', ← hm2'] at hly
    have HLX := Aside0.mk hlx
    have HLY := Aside0.mk hly
    have HMX := Aside0.mk hm0
    have HMY := Aside0.mk hm1
    have t0 : l0.take (k + 1) = l0.take k ++ [x] := by rw [List.take_succ_eq_append_getElem hlt, hx]
    have t1 : l1.take (k + 1) = l1.take k ++ [y] := by rw [List.take_succ_eq_append_getElem hlt1, hy]
    have G0 := Aside0.mk t0
    have G1 := Aside0.mk t1
    have HNE : Aside0 (x ≠ y → r = false) := ⟨fun hne => by
      cases r with
      | false => rfl
      | true =>
        have h := HR.out.1 rfl
        subst h
        exact absurd (hx.trans hy.symm) hne⟩
    have hltI : (k : Int) < l0.length := by omega
    have hltI1 : (k : Int) < l1.length := by omega
    have hk0 : (0 : Int) ≤ (k : Int) := by omega
    obtain ⟨q, hq⟩ := bool_of (x = y)
    have HQ := Aside0.mk hq
    have HSM : Aside0 (∀ w', HeldB wr w' → Calls Try.prog 69 #[.agg #[.int .i64 x.k, .int .i64 x.p, .int .i64 x.s, .int .i64 x.a, .int .i64 x.r, .slice A1 n1 c1, .slice A2 n2 c2], .agg #[.int .i64 y.k, .int .i64 y.p, .int .i64 y.s, .int .i64 y.a, .int .i64 y.r, .slice B1 m1 d1, .slice B2 m2 d2]] w' fun e w'' => e = .returned (.bool q) ∧ HeldB wr w'') := ⟨fun w' hw => by
      rw [hn1, hn2, hm1', hm2']
      refine (sameRecM x y A1 A2 B1 B2 c1 c2 d1 d2 w' (HMX.out.below hw) (HMY.out.below hw) q HQ.out).mono ?_
      rintro e w'' ⟨rfl, hb⟩
      exact ⟨rfl, hw.then_ hb⟩⟩
    have HAT0 := Aside0.mk hlx
    obtain ⟨f0, f1, f2, f3, f4, f5, f6⟩ := hlx
    clear hly
    obtain ⟨gP, hgP⟩ : ∃ g, g = wr.heap.size := ⟨_, rfl⟩
    obtain ⟨wP, hwP⟩ : ∃ wP, wP = wr.alloc (.cells #[.int .i64 x.k, .int .i64 x.p, .int .i64 x.s, .int .i64 x.a, .int .i64 x.r, .slice A1 n1 c1, .slice A2 n2 c2] 64) := ⟨_, rfl⟩
    have hbP : Below wr.heap.size wr wP := by rw [hwP]; exact (Below.refl _ _).alloc (Nat.le_refl _) _
    have hkP : wP.heap[gP]? = some (.cells (rawR x (.slice A1 n1 c1) (.slice A2 n2 c2)).toArray 64 (0, 0)) := by rw [hwP, hgP]; exact alloc_at wr _
    have HBP := Aside0.mk hbP
    have HKP := Aside0.mk hkP
    have HWP := Aside0.mk (And.intro hwP hgP)
    clear hx hy hm0 hm1 hc0 hc1 t0 t1 hn1 hn2 hm1' hm2' hq hgP hwP hbP hkP
    go_upto_region 6 with (fail)
    rw [← HWP.out.2, ← HWP.out.1]
    clear f0 f1 f2 f3 f4 f5 f6
    obtain ⟨f0, f1, f2, f3, f4, f5, f6⟩ := HLY.out.below HBP.out
    obtain ⟨gR, hgR⟩ : ∃ g, g = wP.heap.size := ⟨_, rfl⟩
    obtain ⟨wR, hwR⟩ : ∃ wR, wR = wP.alloc (.cells #[.int .i64 y.k, .int .i64 y.p, .int .i64 y.s, .int .i64 y.a, .int .i64 y.r, .slice B1 m1 d1, .slice B2 m2 d2] 64) := ⟨_, rfl⟩
    have hbR : Below wP.heap.size wP wR := by rw [hwR]; exact (Below.refl _ _).alloc (Nat.le_refl _) _
    have hkR : wR.heap[gR]? = some (.cells (rawR y (.slice B1 m1 d1) (.slice B2 m2 d2)).toArray 64 (0, 0)) := by rw [hwR, hgR]; exact alloc_at wP _
    have HHR : Aside0 (HeldB wr wR) := ⟨two_andj _ _ _ HBP.out hbR⟩
    have HKR := Aside0.mk hkR
    have HKP2 := Aside0.mk ((hbR.block _ (blk_lt' HKP.out)).trans HKP.out)
    have HWR := Aside0.mk (And.intro hwR hgR)
    clear hgR hwR hbR hkR
    go_upto_region 7 with (fail)
    rw [← HWR.out.2, ← HWR.out.1]
    clear f0 f1 f2 f3 f4 f5 f6
    have e0 : wR.cell? ⟨gP, 0, none⟩ = some (.int .i64 x.k) := cell_of_blk HKP2.out
    have e1 : wR.cell? ⟨gP, 1, none⟩ = some (.int .i64 x.p) := cell_of_blk HKP2.out
    have e2 : wR.cell? ⟨gP, 2, none⟩ = some (.int .i64 x.s) := cell_of_blk HKP2.out
    have e3 : wR.cell? ⟨gP, 3, none⟩ = some (.int .i64 x.a) := cell_of_blk HKP2.out
    have e4 : wR.cell? ⟨gP, 4, none⟩ = some (.int .i64 x.r) := cell_of_blk HKP2.out
    have e5 : wR.cell? ⟨gP, 5, none⟩ = some (.slice A1 n1 c1) := cell_of_blk HKP2.out
    have e6 : wR.cell? ⟨gP, 6, none⟩ = some (.slice A2 n2 c2) := cell_of_blk HKP2.out
    have f0 : wR.cell? ⟨gR, 0, none⟩ = some (.int .i64 y.k) := cell_of_blk HKR.out
    have f1 : wR.cell? ⟨gR, 1, none⟩ = some (.int .i64 y.p) := cell_of_blk HKR.out
    have f2 : wR.cell? ⟨gR, 2, none⟩ = some (.int .i64 y.s) := cell_of_blk HKR.out
    have f3 : wR.cell? ⟨gR, 3, none⟩ = some (.int .i64 y.a) := cell_of_blk HKR.out
    have f4 : wR.cell? ⟨gR, 4, none⟩ = some (.int .i64 y.r) := cell_of_blk HKR.out
    have f5 : wR.cell? ⟨gR, 5, none⟩ = some (.slice B1 m1 d1) := cell_of_blk HKR.out
    have f6 : wR.cell? ⟨gR, 6, none⟩ = some (.slice B2 m2 d2) := cell_of_blk HKR.out
    go_wp2_with fail
    refine (HSM.out wR HHR.out).mono ?_
    rintro e w5 ⟨rfl, hH5⟩
    have HB5 : Aside0 (HeldB w w5) := ⟨HB.out.then_ hH5⟩
    clear hH5 e0 e1 e2 e3 e4 e5 e6 f0 f1 f2 f3 f4 f5 f6
    all_goals
      cases q
      · have hrf : r = false := HNE.out (fun h => by
          have := HQ.out.2 h
          cases this)
        subst hrf
        go_wp2_with fail
        go_ret
        exact ⟨rfl, HB5.out⟩
      · have HXY := Aside0.mk (HQ.out.1 rfl)
        go_wp2_with fail
        go_roundg (l0.length - (k + 1))
        case measure => omega
        case rel => exact ⟨k + 1, by omega, by go_num, ⟨by rw [G0.out, G1.out, HT.out, HXY.out]⟩, HB5⟩
theorem recSame (A0 : Option Addr) (c0 : Nat) (l0 : List RecD) (A1 : Option Addr) (c1 : Nat) (l1 : List RecD) (w : World) (hr0 : Kd.C kRec w A0 l0.length l0) (hr1 : Kd.C kRec w A1 l1.length l1) (hmx : l0.length ≤ 1000000) (r : Bool) (hr : r = true ↔ l0 = l1) :
    Calls Try.prog 39 #[.slice A0 l0.length c0, .slice A1 l1.length c1] w fun e w' => e = .returned (.bool r) ∧ Below w.heap.size w w' := by
  have H := Aside0.mk (eqRecords A0 c0 l0 A1 c1 l1 w hr0 hr1 hmx r hr)
  clear hr0 hr1 hr
  go_enter Try.func39, Try.ntmps39
  go_wp2_with fail
  refine H.out.mono ?_
  rintro e w1 ⟨rfl, hb⟩
  have HB := Aside0.mk hb
  clear hb
  go_wp2_with fail
  go_ret
  exact ⟨rfl, HB.out⟩
end Go.Proofs.Ytkgbcoijkmlmnaa.K
