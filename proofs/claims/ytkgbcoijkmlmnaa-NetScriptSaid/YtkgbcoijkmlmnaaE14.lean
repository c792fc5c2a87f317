/- The statement NetNone. WRITTEN BY wip/gen_netnone.py. -/
import Derived.Test.YtkgbcoijkmlmnaaE13
set_option linter.unusedVariables false
set_option linter.unusedSimpArgs false
set_option maxRecDepth 100000
namespace Go.Proofs.Ytkgbcoijkmlmnaa.K
open Go.RowKit Go.Proofs.YtkgbcoijkmlmnaaW.PrintWords Go.Proofs.YtkgbcoijkmlmnaaW.PrintLast Go.Proofs.YtkgbcoijkmlmnaaW.PrintMore Go.Proofs.Ytkgbcoijkmlmnaa.U Go.Proofs.Ytkgbcoijkmlmnaa.T

theorem greatMessage (m : MsgD) (A1 A2 : Option Addr) (c1 c2 : Nat) (w : World) (h : MsgC w m A1 A2 c1 c2) (hg : ∀ y ∈ m.prs, GPair y) :
    Calls Try.prog 24 #[msgV m (.slice A1 m.set.length c1) (.slice A2 m.prs.length c2)] w fun e w' => RetBool (fun r => r = false → m.set.length ≤ 20 ∧ m.prs.length ≤ 50) e ∧ Below w.heap.size w w' := by
  have hb1 := (Below.refl w.heap.size w).alloc (Nat.le_refl _) (.cells #[.int .i64 m.k, .int .i64 m.s, .int .i64 m.a, .int .i64 m.p, .int .i64 m.q, .int .i64 m.n, .int .i64 m.e, .int .i64 m.r, .slice A1 m.set.length c1, .slice A2 m.prs.length c2] 34)
  have HGP := Aside0.mk (greatPairs A2 c2 m.prs 50 _ (h.below hb1).p hg)
  have HB1 := Aside0.mk hb1
  clear h hg hb1
  unfold msgV
  by_cases hs : (20 : Int) < m.set.length
  · go_enter Try.func24, Try.ntmps24
    go_wp2_with fail
    go_ret
    exact ⟨RetBool.mk true (by simp), HB1.out⟩
  · go_enter Try.func24, Try.ntmps24
    go_wp2_with fail
    refine HGP.out.mono ?_
    rintro e w1 ⟨⟨r, rfl, hr⟩, hb⟩
    have HR := Aside0.mk hr
    have HB2 := Aside0.mk (below_then HB1.out HB1.out.size hb)
    clear hr hb
    go_wp2_with fail
    go_ret
    exact ⟨RetBool.mk r (fun h => ⟨by omega, by have := (HR.out h).1; omega⟩), HB2.out⟩
/-- An act's cells. -/
def rawA (x : NActD) (s1 p1 s2 p2 : Value) : List Value := .int .i64 x.op :: .int .i64 x.i :: (rawL x.l s1 p1 ++ rawL x.m s2 p2)
theorem kNAct_open {w : World} {x : NActD} {cs : List Value} (h : kNAct.K w x cs) : ∃ A1 A2 c1 c2 B1 B2 d1 d2, cs = rawA x (.slice A1 x.l.m.set.length c1) (.slice A2 x.l.m.prs.length c2) (.slice B1 x.m.m.set.length d1) (.slice B2 x.m.m.prs.length d2) ∧ MsgC w x.l.m A1 A2 c1 c2 ∧ MsgC w x.m.m B1 B2 d1 d2 := by
  obtain ⟨_, _, rfl, rfl, ⟨_, _, rfl, rfl, ⟨_, _, rfl, h1, h2⟩⟩⟩ := h
  obtain ⟨A1, A2, c1, c2, rfl, hm1⟩ := kLet_open h1
  obtain ⟨B1, B2, d1, d2, rfl, hm2⟩ := kLet_open h2
  exact ⟨A1, A2, c1, c2, B1, B2, d1, d2, rfl, hm1, hm2⟩
set_option maxHeartbeats 6400000 in
theorem netNone_walk (W : World) (x0 : NActD) (cs0 : List Value) (hk0 : kNAct.K W x0 cs0) (hg0 : GNAct x0) :
    Calls Try.prog 5 #[.agg cs0.toArray] W fun e w' => e = .returned (.bool true) ∧ Below W.heap.size W w' := by
  obtain ⟨A1, A2, c1, c2, B1, B2, d1, d2, rfl, hm1, hm2⟩ := kNAct_open hk0
  obtain ⟨op, i, l, m⟩ := x0
  have hm1 : MsgC W l.m A1 A2 c1 c2 := hm1
  have hgp : ∀ y ∈ l.m.prs, GPair y := hg0.2.2.1.2.2.2.2.2.2.2.2.2.2.2
  obtain ⟨gX, hgX⟩ : ∃ g, g = W.heap.size := ⟨_, rfl⟩
  obtain ⟨wA, hwA⟩ : ∃ wA, wA = W.alloc (.cells #[.int .i64 op, .int .i64 i, .int .i64 l.fr, .int .i64 l.dst, .int .i64 l.m.k, .int .i64 l.m.s, .int .i64 l.m.a, .int .i64 l.m.p, .int .i64 l.m.q, .int .i64 l.m.n, .int .i64 l.m.e, .int .i64 l.m.r, .slice A1 l.m.set.length c1, .slice A2 l.m.prs.length c2, .int .i64 m.fr, .int .i64 m.dst, .int .i64 m.m.k, .int .i64 m.m.s, .int .i64 m.m.a, .int .i64 m.m.p, .int .i64 m.m.q, .int .i64 m.m.n, .int .i64 m.m.e, .int .i64 m.m.r, .slice B1 m.m.set.length d1, .slice B2 m.m.prs.length d2] 38) := ⟨_, rfl⟩
  have hbA : Below W.heap.size W wA := by rw [hwA]; exact (Below.refl _ _).alloc (Nat.le_refl _) _
  have hXA : wA.heap[gX]? = some (.cells ([.int .i64 op, .int .i64 i, .int .i64 l.fr, .int .i64 l.dst, .int .i64 l.m.k, .int .i64 l.m.s, .int .i64 l.m.a, .int .i64 l.m.p, .int .i64 l.m.q, .int .i64 l.m.n, .int .i64 l.m.e, .int .i64 l.m.r, .slice A1 l.m.set.length c1, .slice A2 l.m.prs.length c2, .int .i64 m.fr, .int .i64 m.dst, .int .i64 m.m.k, .int .i64 m.m.s, .int .i64 m.m.a, .int .i64 m.m.p, .int .i64 m.m.q, .int .i64 m.m.n, .int .i64 m.m.e, .int .i64 m.m.r, .slice B1 m.m.set.length d1, .slice B2 m.m.prs.length d2] : List Value).toArray 38 (0, 0)) := by rw [hwA, hgX]; exact alloc_at W _
  have HGM := Aside0.mk (greatMessage l.m A1 A2 c1 c2 wA (hm1.below hbA) hgp)
  have HWA := Aside0.mk (And.intro hwA hgX)
  have HBA := Aside0.mk hbA
  have HXA := Aside0.mk hXA
  have a0 : wA.cell? ⟨gX, 0, none⟩ = some (.int .i64 op) := cell_of_blk hXA
  have a1 : wA.cell? ⟨gX, 1, none⟩ = some (.int .i64 i) := cell_of_blk hXA
  have a2 : wA.cell? ⟨gX, 2, none⟩ = some (.int .i64 l.fr) := cell_of_blk hXA
  have a3 : wA.cell? ⟨gX, 3, none⟩ = some (.int .i64 l.dst) := cell_of_blk hXA
  have a4 : wA.cell? ⟨gX, 4, none⟩ = some (.int .i64 l.m.k) := cell_of_blk hXA
  have a5 : wA.cell? ⟨gX, 5, none⟩ = some (.int .i64 l.m.s) := cell_of_blk hXA
  have a6 : wA.cell? ⟨gX, 6, none⟩ = some (.int .i64 l.m.a) := cell_of_blk hXA
  have a7 : wA.cell? ⟨gX, 7, none⟩ = some (.int .i64 l.m.p) := cell_of_blk hXA
  have a8 : wA.cell? ⟨gX, 8, none⟩ = some (.int .i64 l.m.q) := cell_of_blk hXA
  have a9 : wA.cell? ⟨gX, 9, none⟩ = some (.int .i64 l.m.n) := cell_of_blk hXA
  have a10 : wA.cell? ⟨gX, 10, none⟩ = some (.int .i64 l.m.e) := cell_of_blk hXA
  have a11 : wA.cell? ⟨gX, 11, none⟩ = some (.int .i64 l.m.r) := cell_of_blk hXA
  have a12 : wA.cell? ⟨gX, 12, none⟩ = some (.slice A1 l.m.set.length c1) := cell_of_blk hXA
  have a13 : wA.cell? ⟨gX, 13, none⟩ = some (.slice A2 l.m.prs.length c2) := cell_of_blk hXA
  have a14 : wA.cell? ⟨gX, 14, none⟩ = some (.int .i64 m.fr) := cell_of_blk hXA
  have a15 : wA.cell? ⟨gX, 15, none⟩ = some (.int .i64 m.dst) := cell_of_blk hXA
  have a16 : wA.cell? ⟨gX, 16, none⟩ = some (.int .i64 m.m.k) := cell_of_blk hXA
  have a17 : wA.cell? ⟨gX, 17, none⟩ = some (.int .i64 m.m.s) := cell_of_blk hXA
  have a18 : wA.cell? ⟨gX, 18, none⟩ = some (.int .i64 m.m.a) := cell_of_blk hXA
  have a19 : wA.cell? ⟨gX, 19, none⟩ = some (.int .i64 m.m.p) := cell_of_blk hXA
  have a20 : wA.cell? ⟨gX, 20, none⟩ = some (.int .i64 m.m.q) := cell_of_blk hXA
  have a21 : wA.cell? ⟨gX, 21, none⟩ = some (.int .i64 m.m.n) := cell_of_blk hXA
  have a22 : wA.cell? ⟨gX, 22, none⟩ = some (.int .i64 m.m.e) := cell_of_blk hXA
  have a23 : wA.cell? ⟨gX, 23, none⟩ = some (.int .i64 m.m.r) := cell_of_blk hXA
  have a24 : wA.cell? ⟨gX, 24, none⟩ = some (.slice B1 m.m.set.length d1) := cell_of_blk hXA
  have a25 : wA.cell? ⟨gX, 25, none⟩ = some (.slice B2 m.m.prs.length d2) := cell_of_blk hXA
  have hu := Try.underlying36
  have hum := Try.underlying34
  have hua := Try.underlying38
  clear hk0 hg0 hm1 hm2 hgp hgX hwA hbA hXA
  rw [show (Value.agg (rawA ⟨op, i, l, m⟩ (.slice A1 l.m.set.length c1) (.slice A2 l.m.prs.length c2) (.slice B1 m.m.set.length d1) (.slice B2 m.m.prs.length d2)).toArray) = .agg #[.int .i64 op, .int .i64 i, .int .i64 l.fr, .int .i64 l.dst, .int .i64 l.m.k, .int .i64 l.m.s, .int .i64 l.m.a, .int .i64 l.m.p, .int .i64 l.m.q, .int .i64 l.m.n, .int .i64 l.m.e, .int .i64 l.m.r, .slice A1 l.m.set.length c1, .slice A2 l.m.prs.length c2, .int .i64 m.fr, .int .i64 m.dst, .int .i64 m.m.k, .int .i64 m.m.s, .int .i64 m.m.a, .int .i64 m.m.p, .int .i64 m.m.q, .int .i64 m.m.n, .int .i64 m.m.e, .int .i64 m.m.r, .slice B1 m.m.set.length d1, .slice B2 m.m.prs.length d2] from rfl]
  go_enter Try.func5, Try.ntmps5
  go_upto_region 1 with (fail)
  rw [← HWA.out.1, ← HWA.out.2]
  go_wp2_with fail
  refine HGM.out.mono ?_
  rintro e w1 ⟨⟨r, rfl, hr⟩, hb1⟩
  have hX1 := (hb1.block gX (blk_lt' HXA.out)).trans HXA.out
  have HB1 := Aside0.mk (below_then HBA.out HBA.out.size hb1)
  have c1i : w1.cell? ⟨gX, 1, none⟩ = some (.int .i64 i) := cell_of_blk hX1
  have HX1 := Aside0.mk hX1
  clear hr hb1 hX1 a0 a1 a2 a3 a4 a5 a6 a7 a8 a9 a10 a11 a12 a13 a14 a15 a16 a17 a18 a19 a20 a21 a22 a23 a24 a25
  cases r
  case' true =>
    go_wp2_with fail
    refine (awake16 w1).mono ?_
    rintro e w2 ⟨rfl, hb2⟩
    have HB2 := Aside0.mk (below_then HB1.out HB1.out.size hb2)
    clear hb2
    go_wp2_with fail
    go_ret
    exact ⟨rfl, HB2.out⟩
  have HTK : Aside0 (Calls Try.prog 15 #[.pointer none, .int .i64 i] w1 fun e w' => e = .returned (.tuple #[.agg #[.int .i64 0, .int .i64 0, .int .i64 0, .int .i64 0, .int .i64 0, .int .i64 0, .int .i64 0, .int .i64 0, .int .i64 0, .int .i64 0, .slice none 0 0, .slice none 0 0], .bool false]) ∧ Below w1.heap.size w1 w') := ⟨take_no (.pointer none) w1 i (fun w' => netIs_nil w' i)⟩
  go_wp2_with fail
  refine HTK.out.mono ?_
  rintro e w2 ⟨rfl, hb2⟩
  have hX2 := (hb2.block gX (blk_lt' HX1.out)).trans HX1.out
  obtain ⟨w3, hw3⟩ : ∃ w3, w3 = w2.alloc (.cells #[.int .i64 0, .int .i64 0, .int .i64 0, .int .i64 0, .int .i64 0, .int .i64 0, .int .i64 0, .int .i64 0, .int .i64 0, .int .i64 0, .slice none 0 0, .slice none 0 0] 36) := ⟨_, rfl⟩
  obtain ⟨g4, hg4⟩ : ∃ g, g = w2.heap.size := ⟨_, rfl⟩
  have hb3 : Below w2.heap.size w2 w3 := by rw [hw3]; exact (Below.refl _ _).alloc (Nat.le_refl _) _
  have h43 : w3.heap[g4]? = some (.cells ([.int .i64 0, .int .i64 0, .int .i64 0, .int .i64 0, .int .i64 0, .int .i64 0, .int .i64 0, .int .i64 0, .int .i64 0, .int .i64 0, .slice none 0 0, .slice none 0 0] : List Value).toArray 36 (0, 0)) := by rw [hw3, hg4]; exact alloc_at w2 _
  have hX3 := (hb3.block gX (blk_lt' hX2)).trans hX2
  obtain ⟨w4, hw4⟩ : ∃ w4, w4 = w3.alloc (.cells #[.int .i64 l.fr, .int .i64 l.dst, .int .i64 l.m.k, .int .i64 l.m.s, .int .i64 l.m.a, .int .i64 l.m.p, .int .i64 l.m.q, .int .i64 l.m.n, .int .i64 l.m.e, .int .i64 l.m.r, .slice A1 l.m.set.length c1, .slice A2 l.m.prs.length c2] 36) := ⟨_, rfl⟩
  have hb4 : Below w3.heap.size w3 w4 := by rw [hw4]; exact (Below.refl _ _).alloc (Nat.le_refl _) _
  have h44 := (hb4.block g4 (blk_lt' h43)).trans h43
  have hs4 : w4.heap.size = w3.heap.size + 1 := by rw [hw4]; exact World.size_alloc _ _
  obtain ⟨w5, hw5⟩ : ∃ w5, w5 = w4.alloc (.cells #[.int .i64 0, .int .i64 0, .int .i64 0, .int .i64 0, .int .i64 0, .int .i64 0, .int .i64 0, .int .i64 0, .int .i64 0, .int .i64 0, .slice none 0 0, .slice none 0 0] 36) := ⟨_, rfl⟩
  have hb5 : Below w4.heap.size w4 w5 := by rw [hw5]; exact (Below.refl _ _).alloc (Nat.le_refl _) _
  have hs5 : w5.heap.size = w3.heap.size + 2 := by rw [hw5, World.size_alloc, hs4]
  have h55 : w5.heap[w3.heap.size + 1]? = some (.cells ([.int .i64 0, .int .i64 0, .int .i64 0, .int .i64 0, .int .i64 0, .int .i64 0, .int .i64 0, .int .i64 0, .int .i64 0, .int .i64 0, .slice none 0 0, .slice none 0 0] : List Value).toArray 36 (0, 0)) := by rw [hw5, ← hs4]; exact alloc_at w4 _
  obtain ⟨w6, hw6⟩ : ∃ w6, w6 = w5.alloc (.cells #[.int .i64 0, .int .i64 0, .int .i64 0, .int .i64 0, .int .i64 0, .int .i64 0, .int .i64 0, .int .i64 0, .int .i64 0, .int .i64 0, .slice none 0 0, .slice none 0 0] 36) := ⟨_, rfl⟩
  have hb6 : Below w5.heap.size w5 w6 := by rw [hw6]; exact (Below.refl _ _).alloc (Nat.le_refl _) _
  have h66 : w6.heap[w3.heap.size + 2]? = some (.cells ([.int .i64 0, .int .i64 0, .int .i64 0, .int .i64 0, .int .i64 0, .int .i64 0, .int .i64 0, .int .i64 0, .int .i64 0, .int .i64 0, .slice none 0 0, .slice none 0 0] : List Value).toArray 36 (0, 0)) := by rw [hw6, ← hs5]; exact alloc_at w5 _
  have h56 := (hb6.block _ (blk_lt' h55)).trans h55
  have hb36 := below_then (below_then hb4 hb4.size hb5) (below_then hb4 hb4.size hb5).size hb6
  have hX6 := (hb36.block gX (blk_lt' hX3)).trans hX3
  have HSAME : Aside0 (Calls Try.prog 17 #[.slice (some ⟨w3.heap.size + 1, 0, none⟩) 1 1, .slice (some ⟨w3.heap.size + 2, 0, none⟩) 1 1] w6 fun e w' => e = .returned (.bool true) ∧ Below w6.heap.size w6 w') := ⟨sameLetters (some ⟨w3.heap.size + 1, 0, none⟩) 1 [nl (0, 0)] (some ⟨w3.heap.size + 2, 0, none⟩) 1 [nl (0, 0)] w6 (nl_C w6 [(0, 0)] h56 (by decide)) (nl_C w6 [(0, 0)] h66 (by decide)) (by decide) true (by simp)⟩
  have HB6 := Aside0.mk (below_then (below_then HB1.out HB1.out.size hb2) (below_then HB1.out HB1.out.size hb2).size (below_then hb3 hb3.size hb36))
  have HX6 := Aside0.mk hX6
  have HWS := Aside0.mk (And.intro hw3 (And.intro hg4 (And.intro hw4 (And.intro hw5 hw6))))
  have x0 : w3.cell? ⟨gX, 2, none⟩ = some (.int .i64 l.fr) := cell_of_blk hX3
  have x1 : w3.cell? ⟨gX, 3, none⟩ = some (.int .i64 l.dst) := cell_of_blk hX3
  have x2 : w3.cell? ⟨gX, 4, none⟩ = some (.int .i64 l.m.k) := cell_of_blk hX3
  have x3 : w3.cell? ⟨gX, 5, none⟩ = some (.int .i64 l.m.s) := cell_of_blk hX3
  have x4 : w3.cell? ⟨gX, 6, none⟩ = some (.int .i64 l.m.a) := cell_of_blk hX3
  have x5 : w3.cell? ⟨gX, 7, none⟩ = some (.int .i64 l.m.p) := cell_of_blk hX3
  have x6 : w3.cell? ⟨gX, 8, none⟩ = some (.int .i64 l.m.q) := cell_of_blk hX3
  have x7 : w3.cell? ⟨gX, 9, none⟩ = some (.int .i64 l.m.n) := cell_of_blk hX3
  have x8 : w3.cell? ⟨gX, 10, none⟩ = some (.int .i64 l.m.e) := cell_of_blk hX3
  have x9 : w3.cell? ⟨gX, 11, none⟩ = some (.int .i64 l.m.r) := cell_of_blk hX3
  have x10 : w3.cell? ⟨gX, 12, none⟩ = some (.slice A1 l.m.set.length c1) := cell_of_blk hX3
  have x11 : w3.cell? ⟨gX, 13, none⟩ = some (.slice A2 l.m.prs.length c2) := cell_of_blk hX3
  have y0 : (w3.alloc (.cells #[.int .i64 l.fr, .int .i64 l.dst, .int .i64 l.m.k, .int .i64 l.m.s, .int .i64 l.m.a, .int .i64 l.m.p, .int .i64 l.m.q, .int .i64 l.m.n, .int .i64 l.m.e, .int .i64 l.m.r, .slice A1 l.m.set.length c1, .slice A2 l.m.prs.length c2] 36)).cell? ⟨g4, 0, none⟩ = some (.int .i64 0) := by rw [← hw4]; exact cell_of_blk h44
  have y1 : (w3.alloc (.cells #[.int .i64 l.fr, .int .i64 l.dst, .int .i64 l.m.k, .int .i64 l.m.s, .int .i64 l.m.a, .int .i64 l.m.p, .int .i64 l.m.q, .int .i64 l.m.n, .int .i64 l.m.e, .int .i64 l.m.r, .slice A1 l.m.set.length c1, .slice A2 l.m.prs.length c2] 36)).cell? ⟨g4, 1, none⟩ = some (.int .i64 0) := by rw [← hw4]; exact cell_of_blk h44
  have y2 : (w3.alloc (.cells #[.int .i64 l.fr, .int .i64 l.dst, .int .i64 l.m.k, .int .i64 l.m.s, .int .i64 l.m.a, .int .i64 l.m.p, .int .i64 l.m.q, .int .i64 l.m.n, .int .i64 l.m.e, .int .i64 l.m.r, .slice A1 l.m.set.length c1, .slice A2 l.m.prs.length c2] 36)).cell? ⟨g4, 2, none⟩ = some (.int .i64 0) := by rw [← hw4]; exact cell_of_blk h44
  have y3 : (w3.alloc (.cells #[.int .i64 l.fr, .int .i64 l.dst, .int .i64 l.m.k, .int .i64 l.m.s, .int .i64 l.m.a, .int .i64 l.m.p, .int .i64 l.m.q, .int .i64 l.m.n, .int .i64 l.m.e, .int .i64 l.m.r, .slice A1 l.m.set.length c1, .slice A2 l.m.prs.length c2] 36)).cell? ⟨g4, 3, none⟩ = some (.int .i64 0) := by rw [← hw4]; exact cell_of_blk h44
  have y4 : (w3.alloc (.cells #[.int .i64 l.fr, .int .i64 l.dst, .int .i64 l.m.k, .int .i64 l.m.s, .int .i64 l.m.a, .int .i64 l.m.p, .int .i64 l.m.q, .int .i64 l.m.n, .int .i64 l.m.e, .int .i64 l.m.r, .slice A1 l.m.set.length c1, .slice A2 l.m.prs.length c2] 36)).cell? ⟨g4, 4, none⟩ = some (.int .i64 0) := by rw [← hw4]; exact cell_of_blk h44
  have y5 : (w3.alloc (.cells #[.int .i64 l.fr, .int .i64 l.dst, .int .i64 l.m.k, .int .i64 l.m.s, .int .i64 l.m.a, .int .i64 l.m.p, .int .i64 l.m.q, .int .i64 l.m.n, .int .i64 l.m.e, .int .i64 l.m.r, .slice A1 l.m.set.length c1, .slice A2 l.m.prs.length c2] 36)).cell? ⟨g4, 5, none⟩ = some (.int .i64 0) := by rw [← hw4]; exact cell_of_blk h44
  have y6 : (w3.alloc (.cells #[.int .i64 l.fr, .int .i64 l.dst, .int .i64 l.m.k, .int .i64 l.m.s, .int .i64 l.m.a, .int .i64 l.m.p, .int .i64 l.m.q, .int .i64 l.m.n, .int .i64 l.m.e, .int .i64 l.m.r, .slice A1 l.m.set.length c1, .slice A2 l.m.prs.length c2] 36)).cell? ⟨g4, 6, none⟩ = some (.int .i64 0) := by rw [← hw4]; exact cell_of_blk h44
  have y7 : (w3.alloc (.cells #[.int .i64 l.fr, .int .i64 l.dst, .int .i64 l.m.k, .int .i64 l.m.s, .int .i64 l.m.a, .int .i64 l.m.p, .int .i64 l.m.q, .int .i64 l.m.n, .int .i64 l.m.e, .int .i64 l.m.r, .slice A1 l.m.set.length c1, .slice A2 l.m.prs.length c2] 36)).cell? ⟨g4, 7, none⟩ = some (.int .i64 0) := by rw [← hw4]; exact cell_of_blk h44
  have y8 : (w3.alloc (.cells #[.int .i64 l.fr, .int .i64 l.dst, .int .i64 l.m.k, .int .i64 l.m.s, .int .i64 l.m.a, .int .i64 l.m.p, .int .i64 l.m.q, .int .i64 l.m.n, .int .i64 l.m.e, .int .i64 l.m.r, .slice A1 l.m.set.length c1, .slice A2 l.m.prs.length c2] 36)).cell? ⟨g4, 8, none⟩ = some (.int .i64 0) := by rw [← hw4]; exact cell_of_blk h44
  have y9 : (w3.alloc (.cells #[.int .i64 l.fr, .int .i64 l.dst, .int .i64 l.m.k, .int .i64 l.m.s, .int .i64 l.m.a, .int .i64 l.m.p, .int .i64 l.m.q, .int .i64 l.m.n, .int .i64 l.m.e, .int .i64 l.m.r, .slice A1 l.m.set.length c1, .slice A2 l.m.prs.length c2] 36)).cell? ⟨g4, 9, none⟩ = some (.int .i64 0) := by rw [← hw4]; exact cell_of_blk h44
  have y10 : (w3.alloc (.cells #[.int .i64 l.fr, .int .i64 l.dst, .int .i64 l.m.k, .int .i64 l.m.s, .int .i64 l.m.a, .int .i64 l.m.p, .int .i64 l.m.q, .int .i64 l.m.n, .int .i64 l.m.e, .int .i64 l.m.r, .slice A1 l.m.set.length c1, .slice A2 l.m.prs.length c2] 36)).cell? ⟨g4, 10, none⟩ = some (.slice none 0 0) := by rw [← hw4]; exact cell_of_blk h44
  have y11 : (w3.alloc (.cells #[.int .i64 l.fr, .int .i64 l.dst, .int .i64 l.m.k, .int .i64 l.m.s, .int .i64 l.m.a, .int .i64 l.m.p, .int .i64 l.m.q, .int .i64 l.m.n, .int .i64 l.m.e, .int .i64 l.m.r, .slice A1 l.m.set.length c1, .slice A2 l.m.prs.length c2] 36)).cell? ⟨g4, 11, none⟩ = some (.slice none 0 0) := by rw [← hw4]; exact cell_of_blk h44
  clear hb2 hX2 hw3 hg4 hb3 h43 hX3 hw4 hb4 h44 hs4 hw5 hb5 hs5 h55 hw6 hb6 h66 h56 hb36 hX6 c1i
  go_upto_region 5 with (fail)
  rw [← HWS.out.1, ← HWS.out.2.1]
  go_wp2_with fail
  refine (netSend_nil _ _).mono ?_
  rintro e w7 ⟨rfl, rfl⟩
  go_wp2_with fail
  rw [← HWS.out.2.2.1, ← HWS.out.2.2.2.1, ← HWS.out.2.2.2.2]
  refine HSAME.out.mono ?_
  rintro e w8 ⟨rfl, hb8⟩
  have hX8 := (hb8.block gX (blk_lt' HX6.out)).trans HX6.out
  have c8i : w8.cell? ⟨gX, 1, none⟩ = some (.int .i64 i) := cell_of_blk hX8
  have HB8 := Aside0.mk (below_then HB6.out HB6.out.size hb8)
  clear hb8 hX8 x0 y0 x1 y1 x2 y2 x3 y3 x4 y4 x5 y5 x6 y6 x7 y7 x8 y8 x9 y9 x10 y10 x11 y11
  go_wp2_with fail
  refine (netDouble_nil _ _).mono ?_
  rintro e w9 ⟨rfl, rfl⟩
  go_wp2_with fail
  refine (netLen_nil _).mono ?_
  rintro e wa ⟨rfl, rfl⟩
  go_wp2_with fail
  refine (netList_nil _).mono ?_
  rintro e wb ⟨rfl, rfl⟩
  go_wp2_with fail
  refine (awake16 _).mono ?_
  rintro e wc ⟨rfl, hbc⟩
  have HBc := Aside0.mk (below_then HB8.out HB8.out.size hbc)
  clear hbc
  go_wp2_with fail
  go_ret
  exact ⟨rfl, HBc.out⟩
end Go.Proofs.Ytkgbcoijkmlmnaa.K
