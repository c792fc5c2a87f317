/- Letters are held against one another. WRITTEN BY wip/gen_same.py. -/
import Derived.Test.YtbnhhlahbhjogaaY1
set_option linter.unusedVariables false
set_option linter.unusedSimpArgs false
set_option maxRecDepth 100000
namespace Go.Proofs.Ytbnhhlahbhjogaa.K
open Go.RowKit Go.Proofs.YtbnhhlahbhjogaaW.PrintWords Go.Proofs.YtbnhhlahbhjogaaW.PrintLast Go.Proofs.YtbnhhlahbhjogaaW.PrintMore Go.Proofs.Ytbnhhlahbhjogaa.U Go.Proofs.Ytbnhhlahbhjogaa.T

def msgV (m : MsgD) (sv pv : Value) : Value := .agg #[.int .i64 m.k, .int .i64 m.s, .int .i64 m.a, .int .i64 m.p, .int .i64 m.q, .int .i64 m.n, .int .i64 m.e, .int .i64 m.r, sv, pv]
set_option maxHeartbeats 3200000 in
theorem sameMessage (x y : MsgD) (A1 A2 B1 B2 : Option Addr) (c1 c2 d1 d2 : Nat) (w : World) (hx : MsgC w x A1 A2 c1 c2) (hy : MsgC w y B1 B2 d1 d2) (r : Bool) (hr : r = true ↔ x = y) :
    Calls Try.prog 21 #[msgV x (.slice A1 x.set.length c1) (.slice A2 x.prs.length c2), msgV y (.slice B1 y.set.length d1) (.slice B2 y.prs.length d2)] w fun e w' => e = .returned (.bool r) ∧ Below w.heap.size w w' := by
  have hb1 := (Below.refl w.heap.size w).alloc (Nat.le_refl _) (.cells #[.int .i64 x.k, .int .i64 x.s, .int .i64 x.a, .int .i64 x.p, .int .i64 x.q, .int .i64 x.n, .int .i64 x.e, .int .i64 x.r, .slice A1 x.set.length c1, .slice A2 x.prs.length c2] 45)
  have hb2 := hb1.alloc hb1.size (.cells #[.int .i64 y.k, .int .i64 y.s, .int .i64 y.a, .int .i64 y.p, .int .i64 y.q, .int .i64 y.n, .int .i64 y.e, .int .i64 y.r, .slice B1 y.set.length d1, .slice B2 y.prs.length d2] 45)
  have hq1 : ((w.alloc (.cells #[.int .i64 x.k, .int .i64 x.s, .int .i64 x.a, .int .i64 x.p, .int .i64 x.q, .int .i64 x.n, .int .i64 x.e, .int .i64 x.r, .slice A1 x.set.length c1, .slice A2 x.prs.length c2] 45)).alloc (.cells #[.int .i64 y.k, .int .i64 y.s, .int .i64 y.a, .int .i64 y.p, .int .i64 y.q, .int .i64 y.n, .int .i64 y.e, .int .i64 y.r, .slice B1 y.set.length d1, .slice B2 y.prs.length d2] 45)).cell? ⟨w.heap.size, 9, none⟩ = some (.slice A2 x.prs.length c2) := cell_of_blk (cs := [.int .i64 x.k, .int .i64 x.s, .int .i64 x.a, .int .i64 x.p, .int .i64 x.q, .int .i64 x.n, .int .i64 x.e, .int .i64 x.r, .slice A1 x.set.length c1, .slice A2 x.prs.length c2]) (alloc_keeps (alloc_at w _) _)
  have hq2 : ((w.alloc (.cells #[.int .i64 x.k, .int .i64 x.s, .int .i64 x.a, .int .i64 x.p, .int .i64 x.q, .int .i64 x.n, .int .i64 x.e, .int .i64 x.r, .slice A1 x.set.length c1, .slice A2 x.prs.length c2] 45)).alloc (.cells #[.int .i64 y.k, .int .i64 y.s, .int .i64 y.a, .int .i64 y.p, .int .i64 y.q, .int .i64 y.n, .int .i64 y.e, .int .i64 y.r, .slice B1 y.set.length d1, .slice B2 y.prs.length d2] 45)).cell? ⟨w.heap.size + 1, 9, none⟩ = some (.slice B2 y.prs.length d2) := by
    have := alloc_at (w.alloc (.cells #[.int .i64 x.k, .int .i64 x.s, .int .i64 x.a, .int .i64 x.p, .int .i64 x.q, .int .i64 x.n, .int .i64 x.e, .int .i64 x.r, .slice A1 x.set.length c1, .slice A2 x.prs.length c2] 45)) (.cells ([.int .i64 y.k, .int .i64 y.s, .int .i64 y.a, .int .i64 y.p, .int .i64 y.q, .int .i64 y.n, .int .i64 y.e, .int .i64 y.r, .slice B1 y.set.length d1, .slice B2 y.prs.length d2] : List Value).toArray 45)
    rw [World.size_alloc] at this
    exact cell_of_blk this
  have HQ := Aside0.mk (And.intro hq1 hq2)
  have HX := Aside0.mk (hx.below hb2)
  have HY := Aside0.mk (hy.below hb2)
  have HB := Aside0.mk hb2
  have HR := Aside0.mk hr
  clear hx hy hb1 hb2 hr hq1 hq2
  unfold msgV
  by_cases h0 : x.k = y.k
  case' neg =>
    have g0 : (x.k == y.k) = false := by simpa using h0
    have hrf : r = false := by
      cases r with
      | false => rfl
      | true => exact absurd (by rw [HR.out.1 rfl]) h0
    subst hrf
    clear h0
    go_enter Try.func21, Try.ntmps21
    go_wp2_with fail
    go_ret
    exact ⟨rfl, HB.out⟩
  have g0 : (x.k == y.k) = true := by simpa using h0
  have H0 := Aside0.mk h0
  clear h0
  by_cases h1 : x.s = y.s
  case' neg =>
    have g1 : (x.s == y.s) = false := by simpa using h1
    have hrf : r = false := by
      cases r with
      | false => rfl
      | true => exact absurd (by rw [HR.out.1 rfl]) h1
    subst hrf
    clear h1
    go_enter Try.func21, Try.ntmps21
    go_wp2_with fail
    go_ret
    exact ⟨rfl, HB.out⟩
  have g1 : (x.s == y.s) = true := by simpa using h1
  have H1 := Aside0.mk h1
  clear h1
  by_cases h2 : x.a = y.a
  case' neg =>
    have g2 : (x.a == y.a) = false := by simpa using h2
    have hrf : r = false := by
      cases r with
      | false => rfl
      | true => exact absurd (by rw [HR.out.1 rfl]) h2
    subst hrf
    clear h2
    go_enter Try.func21, Try.ntmps21
    go_wp2_with fail
    go_ret
    exact ⟨rfl, HB.out⟩
  have g2 : (x.a == y.a) = true := by simpa using h2
  have H2 := Aside0.mk h2
  clear h2
  by_cases h3 : x.p = y.p
  case' neg =>
    have g3 : (x.p == y.p) = false := by simpa using h3
    have hrf : r = false := by
      cases r with
      | false => rfl
      | true => exact absurd (by rw [HR.out.1 rfl]) h3
    subst hrf
    clear h3
    go_enter Try.func21, Try.ntmps21
    go_wp2_with fail
    go_ret
    exact ⟨rfl, HB.out⟩
  have g3 : (x.p == y.p) = true := by simpa using h3
  have H3 := Aside0.mk h3
  clear h3
  by_cases h4 : x.q = y.q
  case' neg =>
    have g4 : (x.q == y.q) = false := by simpa using h4
    have hrf : r = false := by
      cases r with
      | false => rfl
      | true => exact absurd (by rw [HR.out.1 rfl]) h4
    subst hrf
    clear h4
    go_enter Try.func21, Try.ntmps21
    go_wp2_with fail
    go_ret
    exact ⟨rfl, HB.out⟩
  have g4 : (x.q == y.q) = true := by simpa using h4
  have H4 := Aside0.mk h4
  clear h4
  by_cases h5 : x.n = y.n
  case' neg =>
    have g5 : (x.n == y.n) = false := by simpa using h5
    have hrf : r = false := by
      cases r with
      | false => rfl
      | true => exact absurd (by rw [HR.out.1 rfl]) h5
    subst hrf
    clear h5
    go_enter Try.func21, Try.ntmps21
    go_wp2_with fail
    go_ret
    exact ⟨rfl, HB.out⟩
  have g5 : (x.n == y.n) = true := by simpa using h5
  have H5 := Aside0.mk h5
  clear h5
  by_cases h6 : x.e = y.e
  case' neg =>
    have g6 : (x.e == y.e) = false := by simpa using h6
    have hrf : r = false := by
      cases r with
      | false => rfl
      | true => exact absurd (by rw [HR.out.1 rfl]) h6
    subst hrf
    clear h6
    go_enter Try.func21, Try.ntmps21
    go_wp2_with fail
    go_ret
    exact ⟨rfl, HB.out⟩
  have g6 : (x.e == y.e) = true := by simpa using h6
  have H6 := Aside0.mk h6
  clear h6
  by_cases h7 : x.r = y.r
  case' neg =>
    have g7 : (x.r == y.r) = false := by simpa using h7
    have hrf : r = false := by
      cases r with
      | false => rfl
      | true => exact absurd (by rw [HR.out.1 rfl]) h7
    subst hrf
    clear h7
    go_enter Try.func21, Try.ntmps21
    go_wp2_with fail
    go_ret
    exact ⟨rfl, HB.out⟩
  have g7 : (x.r == y.r) = true := by simpa using h7
  have H7 := Aside0.mk h7
  clear h7
  have HH := Aside0.mk (And.intro H0.out (And.intro H1.out (And.intro H2.out (And.intro H3.out (And.intro H4.out (And.intro H5.out (And.intro H6.out H7.out)))))))
  have hxy : x = y ↔ x.set = y.set ∧ x.prs = y.prs := by
    obtain ⟨h0, h1, h2, h3, h4, h5, h6, h7⟩ := HH.out
    obtain ⟨k, s, a, p, q, n, e, r, set, prs⟩ := x
    obtain ⟨k', s', a', p', q', n', e', r', set', prs'⟩ := y
    simp only at h0 h1 h2 h3 h4 h5 h6 h7
    subst h0; subst h1; subst h2; subst h3; subst h4; subst h5; subst h6; subst h7
    simp
  have HXY := Aside0.mk hxy
  clear hxy
  go_enter Try.func21, Try.ntmps21
  go_wp2_with fail
  obtain ⟨r1, hr1⟩ : ∃ r1, r1 = decide (x.set = y.set) := ⟨_, rfl⟩
  refine (sameInts A1 c1 x.set B1 d1 y.set _ HX.out.s HY.out.s r1 hr1).mono ?_
  rintro e w1 ⟨rfl, hb1⟩
  have HB1 := Aside0.mk (below_then HB.out HB.out.size hb1)
  have HX1 := Aside0.mk (HX.out.below hb1)
  have HY1 := Aside0.mk (HY.out.below hb1)
  have HR1 := Aside0.mk hr1
  have c9 : w1.cell? ⟨w.heap.size, 9, none⟩ = some (.slice A2 x.prs.length c2) := (hb1.cell (World.block_lt_of_cell? _ _ HQ.out.1)).trans HQ.out.1
  have d9 : w1.cell? ⟨w.heap.size + 1, 9, none⟩ = some (.slice B2 y.prs.length d2) := (hb1.cell (World.block_lt_of_cell? _ _ HQ.out.2)).trans HQ.out.2
  clear hb1 hr1
  cases r1
  · have hrf : r = false := by
      cases r with
      | false => rfl
      | true => exact absurd (HXY.out.1 (HR.out.1 rfl)).1 (of_decide_eq_false HR1.out.symm)
    subst hrf
    go_wp2_with fail
    go_ret
    exact ⟨rfl, HB1.out⟩
  · have hr2 : r = true ↔ x.prs = y.prs := by
      rw [HR.out, HXY.out]
      exact ⟨fun h => h.2, fun h => ⟨of_decide_eq_true HR1.out.symm, h⟩⟩
    have HR2 := Aside0.mk hr2
    clear hr2
    go_wp2_with fail
    refine (samePairs A2 c2 x.prs B2 d2 y.prs w1 HX1.out.p HY1.out.p r HR2.out).mono ?_
    rintro e w2 ⟨rfl, hb2⟩
    have HB2 := Aside0.mk (below_then HB1.out HB1.out.size hb2)
    clear hb2
    go_wp2_with fail
    go_ret
    exact ⟨rfl, HB2.out⟩
end Go.Proofs.Ytbnhhlahbhjogaa.K
