/- Records are held against one another: the law's own. -/
import Derived.Test.YtbnhhlahbhjogaaY1
import Derived.Test.YtbnhhlahbhjogaaKI
set_option linter.unusedVariables false
set_option linter.unusedSimpArgs false
set_option maxRecDepth 100000
namespace Go.Proofs.Ytbnhhlahbhjogaa.K
open Go.RowKit Go.Proofs.YtbnhhlahbhjogaaW.PrintWords Go.Proofs.YtbnhhlahbhjogaaW.PrintLast Go.Proofs.YtbnhhlahbhjogaaW.PrintMore Go.Proofs.Ytbnhhlahbhjogaa.U Go.Proofs.Ytbnhhlahbhjogaa.T
attribute [local go_sem high] eqA_pair
/-- What was there is there yet. -/
def HeldB (w w' : World) : Prop := Below w.heap.size w w'
theorem HeldB.then_ {w w1 w2 : World} (h : HeldB w w1) (k : Below w1.heap.size w1 w2) : HeldB w w2 := below_then h h.size k
theorem HeldB.block {w w1 : World} (h : HeldB w w1) (g : Nat) (hg : g < w.heap.size) : w1.heap[g]? = w.heap[g]? := Below.block h g hg
theorem HeldB.size {w w1 : World} (h : HeldB w w1) : w.heap.size ≤ w1.heap.size := Below.size h
set_option maxHeartbeats 3200000 in
theorem sameRecord (x y : RecD) (A1 A2 B1 B2 : Option Addr) (c1 c2 d1 d2 : Nat) (w : World) (hx : RecC w x A1 A2 c1 c2) (hy : RecC w y B1 B2 d1 d2) (r : Bool) (hr : r = true ↔ x = y) :
    Calls Try.prog 64 #[recV x (.slice A1 x.set.length c1) (.slice A2 x.prs.length c2), recV y (.slice B1 y.set.length d1) (.slice B2 y.prs.length d2)] w fun e w' => e = .returned (.bool r) ∧ Below w.heap.size w w' := by
  have hb1 := (Below.refl w.heap.size w).alloc (Nat.le_refl _) (.cells #[.int .i64 x.k, .int .i64 x.p, .int .i64 x.s, .int .i64 x.a, .int .i64 x.r, .slice A1 x.set.length c1, .slice A2 x.prs.length c2] 90)
  have hb2 := hb1.alloc hb1.size (.cells #[.int .i64 y.k, .int .i64 y.p, .int .i64 y.s, .int .i64 y.a, .int .i64 y.r, .slice B1 y.set.length d1, .slice B2 y.prs.length d2] 90)
  have hq1 : ((w.alloc (.cells #[.int .i64 x.k, .int .i64 x.p, .int .i64 x.s, .int .i64 x.a, .int .i64 x.r, .slice A1 x.set.length c1, .slice A2 x.prs.length c2] 90)).alloc (.cells #[.int .i64 y.k, .int .i64 y.p, .int .i64 y.s, .int .i64 y.a, .int .i64 y.r, .slice B1 y.set.length d1, .slice B2 y.prs.length d2] 90)).cell? ⟨w.heap.size, 6, none⟩ = some (.slice A2 x.prs.length c2) := cell_of_blk (cs := [.int .i64 x.k, .int .i64 x.p, .int .i64 x.s, .int .i64 x.a, .int .i64 x.r, .slice A1 x.set.length c1, .slice A2 x.prs.length c2]) (alloc_keeps (alloc_at w _) _)
  have hq2 : ((w.alloc (.cells #[.int .i64 x.k, .int .i64 x.p, .int .i64 x.s, .int .i64 x.a, .int .i64 x.r, .slice A1 x.set.length c1, .slice A2 x.prs.length c2] 90)).alloc (.cells #[.int .i64 y.k, .int .i64 y.p, .int .i64 y.s, .int .i64 y.a, .int .i64 y.r, .slice B1 y.set.length d1, .slice B2 y.prs.length d2] 90)).cell? ⟨w.heap.size + 1, 6, none⟩ = some (.slice B2 y.prs.length d2) := by
    have := alloc_at (w.alloc (.cells #[.int .i64 x.k, .int .i64 x.p, .int .i64 x.s, .int .i64 x.a, .int .i64 x.r, .slice A1 x.set.length c1, .slice A2 x.prs.length c2] 90)) (.cells ([.int .i64 y.k, .int .i64 y.p, .int .i64 y.s, .int .i64 y.a, .int .i64 y.r, .slice B1 y.set.length d1, .slice B2 y.prs.length d2] : List Value).toArray 90)
    rw [World.size_alloc] at this
    exact cell_of_blk this
  have HQ := Aside0.mk (And.intro hq1 hq2)
  have HX := Aside0.mk (hx.below hb2)
  have HY := Aside0.mk (hy.below hb2)
  have HB := Aside0.mk hb2
  have HR := Aside0.mk hr
  clear hx hy hb1 hb2 hr hq1 hq2
  unfold recV
  by_cases h0 : x.k = y.k
  case' neg =>
    have g0 : (x.k == y.k) = false := by simpa using h0
    have hrf : r = false := by
      cases r with
      | false => rfl
      | true => exact absurd (by rw [HR.out.1 rfl]) h0
    subst hrf
    clear h0
    go_enter Try.func64, Try.ntmps64
    go_wp2_with fail
    go_ret
    exact ⟨rfl, HB.out⟩
  have g0 : (x.k == y.k) = true := by simpa using h0
  have H0 := Aside0.mk h0
  clear h0
  by_cases h1 : x.p = y.p
  case' neg =>
    have g1 : (x.p == y.p) = false := by simpa using h1
    have hrf : r = false := by
      cases r with
      | false => rfl
      | true => exact absurd (by rw [HR.out.1 rfl]) h1
    subst hrf
    clear h1
    go_enter Try.func64, Try.ntmps64
    go_wp2_with fail
    go_ret
    exact ⟨rfl, HB.out⟩
  have g1 : (x.p == y.p) = true := by simpa using h1
  have H1 := Aside0.mk h1
  clear h1
  by_cases h2 : x.s = y.s
  case' neg =>
    have g2 : (x.s == y.s) = false := by simpa using h2
    have hrf : r = false := by
      cases r with
      | false => rfl
      | true => exact absurd (by rw [HR.out.1 rfl]) h2
    subst hrf
    clear h2
    go_enter Try.func64, Try.ntmps64
    go_wp2_with fail
    go_ret
    exact ⟨rfl, HB.out⟩
  have g2 : (x.s == y.s) = true := by simpa using h2
  have H2 := Aside0.mk h2
  clear h2
  by_cases h3 : x.a = y.a
  case' neg =>
    have g3 : (x.a == y.a) = false := by simpa using h3
    have hrf : r = false := by
      cases r with
      | false => rfl
      | true => exact absurd (by rw [HR.out.1 rfl]) h3
    subst hrf
    clear h3
    go_enter Try.func64, Try.ntmps64
    go_wp2_with fail
    go_ret
    exact ⟨rfl, HB.out⟩
  have g3 : (x.a == y.a) = true := by simpa using h3
  have H3 := Aside0.mk h3
  clear h3
  by_cases h4 : x.r = y.r
  case' neg =>
    have g4 : (x.r == y.r) = false := by simpa using h4
    have hrf : r = false := by
      cases r with
      | false => rfl
      | true => exact absurd (by rw [HR.out.1 rfl]) h4
    subst hrf
    clear h4
    go_enter Try.func64, Try.ntmps64
    go_wp2_with fail
    go_ret
    exact ⟨rfl, HB.out⟩
  have g4 : (x.r == y.r) = true := by simpa using h4
  have H4 := Aside0.mk h4
  clear h4
  have hxy : x = y ↔ x.set = y.set ∧ x.prs = y.prs := by
    have h0 := H0.out
    have h1 := H1.out
    have h2 := H2.out
    have h3 := H3.out
    have h4 := H4.out
    obtain ⟨k, p, s, a, r, set, prs⟩ := x
    obtain ⟨k', p', s', a', r', set', prs'⟩ := y
    simp only at h0 h1 h2 h3 h4
    subst h0; subst h1; subst h2; subst h3; subst h4
    simp
  have HXY := Aside0.mk hxy
  clear hxy
  go_enter Try.func64, Try.ntmps64
  go_wp2_with fail
  obtain ⟨r1, hr1⟩ : ∃ r1, r1 = decide (x.set = y.set) := ⟨_, rfl⟩
  refine (sameInts A1 c1 x.set B1 d1 y.set _ HX.out.s HY.out.s r1 hr1).mono ?_
  rintro e w1 ⟨rfl, hb1⟩
  have HB1 := Aside0.mk (below_then HB.out HB.out.size hb1)
  have HX1 := Aside0.mk (HX.out.below hb1)
  have HY1 := Aside0.mk (HY.out.below hb1)
  have HR1 := Aside0.mk hr1
  have c9 : w1.cell? ⟨w.heap.size, 6, none⟩ = some (.slice A2 x.prs.length c2) := (hb1.cell (World.block_lt_of_cell? _ _ HQ.out.1)).trans HQ.out.1
  have d9 : w1.cell? ⟨w.heap.size + 1, 6, none⟩ = some (.slice B2 y.prs.length d2) := (hb1.cell (World.block_lt_of_cell? _ _ HQ.out.2)).trans HQ.out.2
  clear hb1 hr1
  cases r1
  · have hrf : r = false := by
      cases r with
      | false => rfl
      | true => exact absurd (HXY.out.1 (HR.out.1 rfl)).1 (of_decide_eq_false HR1.out.symm)
    subst hrf
    go_wp2_with fail
    go_ret
    exact ⟨rfl, HB1.out⟩
  · have hr2 : r = true ↔ x.prs = y.prs := by
      rw [HR.out, HXY.out]
      exact ⟨fun h => h.2, fun h => ⟨of_decide_eq_true HR1.out.symm, h⟩⟩
    have HR2 := Aside0.mk hr2
    clear hr2
    go_wp2_with fail
    refine (samePairs A2 c2 x.prs B2 d2 y.prs w1 HX1.out.p HY1.out.p r HR2.out).mono ?_
    rintro e w2 ⟨rfl, hb2⟩
    have HB2 := Aside0.mk (below_then HB1.out HB1.out.size hb2)
    clear hb2
    go_wp2_with fail
    go_ret
    exact ⟨rfl, HB2.out⟩
set_option maxHeartbeats 6400000 in
theorem sameRecords (A0 : Option Addr) (c0 : Nat) (l0 : List RecD) (A1' : Option Addr) (c1' : Nat) (l1 : List RecD) (w : World) (hr0 : Kd.C kRec w A0 l0.length l0) (hr1 : Kd.C kRec w A1' l1.length l1) (hmx : l0.length ≤ 1000000) (r : Bool) (hr : r = true ↔ l0 = l1) :
    Calls Try.prog 40 #[.slice A0 l0.length c0, .slice A1' l1.length c1'] w fun e w' => e = .returned (.bool r) ∧ Below w.heap.size w w' := by
  have HR := Aside0.mk hr
  have HR0 := Aside0.mk hr0
  have HR1 := Aside0.mk hr1
  clear hr hr0 hr1
  by_cases hl : l0.length = l1.length
  case' neg =>
    have hb1 : ((l0.length : Int) == (l1.length : Int)) = false := by simpa using fun h : (l0.length : Int) = l1.length => hl (by omega)
    have hb2 : ((l0.length : Int) != (l1.length : Int)) = true := by simpa using fun h : (l0.length : Int) = l1.length => hl (by omega)
    have hrf : r = false := by
      cases r with
      | false => rfl
      | true => exact absurd (by rw [HR.out.1 rfl]) hl
    subst hrf
    clear hl
    go_enter Try.func40, Try.ntmps40
    go_wp2_with fail
    go_ret
    exact ⟨rfl, Below.refl _ _⟩
  have HL := Aside0.mk hl
  have hb2 : ((l0.length : Int) != (l1.length : Int)) = false := by simp [hl]
  clear hl
  have hu := Try.underlying90
  go_enter Try.func40, Try.ntmps40
  go_wp2_with fail
  go_loopg [5] l0.length (fun kq v5 w' => ∃ k : Nat, k + kq = l0.length ∧ v5 = .int .i64 k ∧ Aside0 (l0.take k = l1.take k) ∧ Aside0 (HeldB w w'))
  case atStart => exact ⟨0, by omega, rfl, ⟨by simp⟩, ⟨Below.refl _ _⟩⟩
  case round =>
    obtain ⟨k, hk, rfl, HT, HB⟩ := hrel
    clear hb2
    by_cases hlt : k < l0.length
    case' neg =>
      obtain rfl : k = l0.length := by omega
      obtain rfl := HR.out.2 (by have h := HT.out; rw [List.take_length, List.take_of_length_le (by have := HL.out; omega)] at h; exact h)
      go_wp2_with fail
      go_ret
      exact ⟨rfl, HB.out⟩
    have hlt1 : k < l1.length := by have := HL.out; omega
    obtain ⟨ad0, A1, A2, c1, c2, rfl, hm0, hc0⟩ := at_rec (Kd.C_below HR0.out HB.out) k hlt zeroRec
    obtain ⟨ad1, B1, B2, d1, d2, rfl, hm1, hc1⟩ := at_rec (Kd.C_below HR1.out HB.out) k hlt1 zeroRec
    have hlx := RecAt.of hc0
    have hly := RecAt.of hc1
    obtain ⟨x, hx⟩ : ∃ x, x = l0[k]'hlt := ⟨_, rfl⟩
    obtain ⟨y, hy⟩ : ∃ y, y = l1[k]'hlt1 := ⟨_, rfl⟩
    rw [← hx] at hm0 hlx
    rw [← hy] at hm1 hly
    obtain ⟨P0, hP0⟩ : ∃ P, ad0.add (k * 7) = P := ⟨_, rfl⟩
    obtain ⟨P1, hP1⟩ : ∃ P, ad1.add (k * 7) = P := ⟨_, rfl⟩
    rw [hP0] at hlx
    rw [hP1] at hly
    obtain ⟨g0, o0, z0⟩ := P0
    obtain ⟨g1, o1, z1⟩ := P1
    obtain ⟨n1, hn1⟩ : ∃ n, n = x.set.length := ⟨_, rfl⟩
    obtain ⟨n2, hn2⟩ : ∃ n, n = x.prs.length := ⟨_, rfl⟩
    obtain ⟨m1, hm1'⟩ : ∃ n, n = y.set.length := ⟨_, rfl⟩
    obtain ⟨m2, hm2'⟩ : ∃ n, n = y.prs.length := ⟨_, rfl⟩
    rw [← hn1, ← hn2] at hlx
    rw [← hm1', ← hm2'] at hly
    have HLX := Aside0.mk hlx
    have HLY := Aside0.mk hly
    have HMX := Aside0.mk hm0
    have HMY := Aside0.mk hm1
    have t0 : l0.take (k + 1) = l0.take k ++ [x] := by rw [List.take_succ_eq_append_getElem hlt, hx]
    have t1 : l1.take (k + 1) = l1.take k ++ [y] := by rw [List.take_succ_eq_append_getElem hlt1, hy]
    have G0 := Aside0.mk t0
    have G1 := Aside0.mk t1
    have HNE : Aside0 (x ≠ y → r = false) := ⟨fun hne => by
      cases r with
      | false => rfl
      | true =>
        have h := HR.out.1 rfl
        subst h
        exact absurd (hx.trans hy.symm) hne⟩
    have hltI : (k : Int) < l0.length := by omega
    have hltI1 : (k : Int) < l1.length := by omega
    have hk0 : (0 : Int) ≤ (k : Int) := by omega
    obtain ⟨q, hq⟩ := bool_of (x = y)
    have HQ := Aside0.mk hq
    have HSM : Aside0 (∀ w', HeldB wr w' → Calls Try.prog 64 #[.agg #[.int .i64 x.k, .int .i64 x.p, .int .i64 x.s, .int .i64 x.a, .int .i64 x.r, .slice A1 n1 c1, .slice A2 n2 c2], .agg #[.int .i64 y.k, .int .i64 y.p, .int .i64 y.s, .int .i64 y.a, .int .i64 y.r, .slice B1 m1 d1, .slice B2 m2 d2]] w' fun e w'' => e = .returned (.bool q) ∧ HeldB wr w'') := ⟨fun w' hw => by
      rw [hn1, hn2, hm1', hm2']
      refine (sameRecord x y A1 A2 B1 B2 c1 c2 d1 d2 w' (HMX.out.below hw) (HMY.out.below hw) q HQ.out).mono ?_
      rintro e w'' ⟨rfl, hb⟩
      exact ⟨rfl, hw.then_ hb⟩⟩
    have hkeep : ∀ w', HeldB wr w' → w'.cell? ⟨g0, o0, z0⟩ = some (.int .i64 x.k) ∧ w'.cell? ⟨g0, o0 + 1, none⟩ = some (.int .i64 x.p) ∧ w'.cell? ⟨g0, o0 + 2, none⟩ = some (.int .i64 x.s) ∧ w'.cell? ⟨g0, o0 + 3, none⟩ = some (.int .i64 x.a) ∧ w'.cell? ⟨g0, o0 + 4, none⟩ = some (.int .i64 x.r) ∧ w'.cell? ⟨g0, o0 + 5, none⟩ = some (.slice A1 n1 c1) ∧ w'.cell? ⟨g0, o0 + 6, none⟩ = some (.slice A2 n2 c2) ∧ w'.cell? ⟨g1, o1, z1⟩ = some (.int .i64 y.k) ∧ w'.cell? ⟨g1, o1 + 1, none⟩ = some (.int .i64 y.p) ∧ w'.cell? ⟨g1, o1 + 2, none⟩ = some (.int .i64 y.s) ∧ w'.cell? ⟨g1, o1 + 3, none⟩ = some (.int .i64 y.a) ∧ w'.cell? ⟨g1, o1 + 4, none⟩ = some (.int .i64 y.r) ∧ w'.cell? ⟨g1, o1 + 5, none⟩ = some (.slice B1 m1 d1) ∧ w'.cell? ⟨g1, o1 + 6, none⟩ = some (.slice B2 m2 d2) := fun w' h => by
      obtain ⟨f0, f1, f2, f3, f4, f5, f6⟩ := HLX.out.below h
      obtain ⟨e0, e1, e2, e3, e4, e5, e6⟩ := HLY.out.below h
      exact ⟨f0, f1, f2, f3, f4, f5, f6, e0, e1, e2, e3, e4, e5, e6⟩
    have HK0 := Aside0.mk hkeep
    have hh0 : HeldB wr wr := Below.refl _ _
    have hhd : ∀ w', HeldB wr w' → HeldB wr w'.drew := fun w' h => h.then_ ⟨rfl, rfl, rfl, Nat.le_refl _, fun _ _ => rfl⟩
    clear hx hy hm0 hm1 hc0 hc1 t0 t1 hn1 hn2 hm1' hm2' hq hkeep hlx hly
    go_wp2_with fail
    go_region_held_law (fun w' => w'.cell? ⟨g0, o0, z0⟩ = some (.int .i64 x.k) ∧ w'.cell? ⟨g0, o0 + 1, none⟩ = some (.int .i64 x.p) ∧ w'.cell? ⟨g0, o0 + 2, none⟩ = some (.int .i64 x.s) ∧ w'.cell? ⟨g0, o0 + 3, none⟩ = some (.int .i64 x.a) ∧ w'.cell? ⟨g0, o0 + 4, none⟩ = some (.int .i64 x.r) ∧ w'.cell? ⟨g0, o0 + 5, none⟩ = some (.slice A1 n1 c1) ∧ w'.cell? ⟨g0, o0 + 6, none⟩ = some (.slice A2 n2 c2) ∧ w'.cell? ⟨g1, o1, z1⟩ = some (.int .i64 y.k) ∧ w'.cell? ⟨g1, o1 + 1, none⟩ = some (.int .i64 y.p) ∧ w'.cell? ⟨g1, o1 + 2, none⟩ = some (.int .i64 y.s) ∧ w'.cell? ⟨g1, o1 + 3, none⟩ = some (.int .i64 y.a) ∧ w'.cell? ⟨g1, o1 + 4, none⟩ = some (.int .i64 y.r) ∧ w'.cell? ⟨g1, o1 + 5, none⟩ = some (.slice B1 m1 d1) ∧ w'.cell? ⟨g1, o1 + 6, none⟩ = some (.slice B2 m2 d2)) (first | assumption | exact HK0.out _ (by first | assumption | exact hhd _ hh0))
     (first
      | (go_at_call 64; ((with_reducible refine (HSM.out _ (by first | assumption | exact hhd _ hh0)).mono ?_); rintro e w5 ⟨rfl, hH5⟩)))
    all_goals
      have HB5 : Aside0 (HeldB w w5) := ⟨HB.out.then_ hH5⟩
      clear hH5 hh0 hhd
      cases q
      · have hrf : r = false := HNE.out (fun h => by
          have := HQ.out.2 h
          cases this)
        subst hrf
        go_wp2_with fail
        go_ret
        exact ⟨rfl, HB5.out⟩
      · have HXY := Aside0.mk (HQ.out.1 rfl)
        go_wp2_with fail
        go_roundg (l0.length - (k + 1))
        case measure => omega
        case rel => exact ⟨k + 1, by omega, by go_num, ⟨by rw [G0.out, G1.out, HT.out, HXY.out]⟩, HB5⟩
end Go.Proofs.Ytbnhhlahbhjogaa.K
