/- Of no master; the statement MasterNone. WRITTEN BY wip/gen_y21.py. -/
import Derived.Test.YtbnhhlahbhjogaaY20
set_option linter.unusedVariables false
set_option linter.unusedSimpArgs false
set_option maxRecDepth 100000
namespace Go.Proofs.Ytbnhhlahbhjogaa.K
open Go.RowKit Go.Proofs.YtbnhhlahbhjogaaW.PrintWords Go.Proofs.YtbnhhlahbhjogaaW.PrintLast Go.Proofs.YtbnhhlahbhjogaaW.PrintMore Go.Proofs.Ytbnhhlahbhjogaa.U Go.Proofs.Ytbnhhlahbhjogaa.T

theorem wake_none (w : World) : Calls Try.prog 18 #[.pointer none] w fun e w' => e = .returned (.slice none 0 0) ∧ Below w.heap.size w w' := by
  have hum := Try.underlying45
  go_enter Try.func18, Try.ntmps18
  go_wp2_with fail
  go_ret
  exact ⟨rfl, Below.refl _ _⟩
theorem now_none (w : World) : Calls Try.prog 22 #[.pointer none] w fun e w' => e = .returned (.int .i64 0) ∧ Below w.heap.size w w' := by
  have hum := Try.underlying45
  go_enter Try.func22, Try.ntmps22
  go_wp2_with fail
  go_ret
  exact ⟨rfl, Below.refl _ _⟩
theorem winners_none (w : World) : Calls Try.prog 29 #[.pointer none] w fun e w' => e = .returned (.slice none 0 0) ∧ Below w.heap.size w w' := by
  have hum := Try.underlying45
  go_enter Try.func29, Try.ntmps29
  go_wp2_with fail
  go_ret
  exact ⟨rfl, Below.refl _ _⟩
theorem tick_none (w : World) : Calls Try.prog 23 #[.pointer none] w fun e w' => e = .returned (.tuple #[]) ∧ Below w.heap.size w w' := by
  have hum := Try.underlying45
  go_enter Try.func23, Try.ntmps23
  go_wp2_with fail
  go_end0
  exact ⟨rfl, Below.refl _ _⟩
theorem state_none (w : World) : Calls Try.prog 16 #[.pointer none] w fun e w' => e = .returned (.tuple #[.int .i64 0, .int .i64 0]) ∧ Below w.heap.size w w' := by
  have hum := Try.underlying45
  go_enter Try.func16, Try.ntmps16
  go_wp2_with fail
  go_ret2
  exact ⟨rfl, Below.refl _ _⟩
theorem winner_none (w : World) (n : Int) : Calls Try.prog 33 #[.pointer none, .int .i64 n] w fun e w' => e = .returned (.tuple #[.int .i64 0, .bool false]) ∧ Below w.heap.size w w' := by
  have hum := Try.underlying45
  go_enter Try.func33, Try.ntmps33
  go_wp2_with fail
  go_ret2
  exact ⟨rfl, Below.refl _ _⟩
theorem hear_none (w : World) (frm : Int) (x : MsgD) (A1 A2 : Option Addr) (ls lp c1 c2 : Nat) : Calls Try.prog 14 #[.pointer none, .int .i64 frm, .agg #[.int .i64 x.k, .int .i64 x.s, .int .i64 x.a, .int .i64 x.p, .int .i64 x.q, .int .i64 x.n, .int .i64 x.e, .int .i64 x.r, .slice A1 ls c1, .slice A2 lp c2]] w fun e w' => e = .returned (.tuple #[.slice none 0 0, .slice none 0 0]) ∧ Below w.heap.size w w' := by
  have hum := Try.underlying45
  go_enter Try.func14, Try.ntmps14
  go_wp2_with fail
  go_ret2
  exact ⟨rfl, (Below.refl _ _).alloc (Nat.le_refl _) _⟩
theorem kMAct_open {w : World} {x : MActD} {cs : List Value} (h : kMAct.K w x cs) : ∃ A1 A2 c1 c2, cs = rawL ⟨x.op, x.fr, x.m⟩ (.slice A1 x.m.set.length c1) (.slice A2 x.m.prs.length c2) ∧ MsgC w x.m A1 A2 c1 c2 := kLet_open (x := ⟨x.op, x.fr, x.m⟩) h
set_option maxHeartbeats 6400000 in
theorem masterNone_walk (W : World) (x0 : MActD) (cs0 : List Value) (hk0 : kMAct.K W x0 cs0) (hg0 : GMAct x0) :
    Calls Try.prog 8 #[.agg cs0.toArray] W fun e w' => e = .returned (.bool true) ∧ Below W.heap.size W w' := by
  obtain ⟨A1, A2, c1, c2, rfl, hm1⟩ := kMAct_open hk0
  obtain ⟨op, fr, x⟩ := x0
  have hm1 : MsgC W x A1 A2 c1 c2 := hm1
  have hgp : ∀ y ∈ x.prs, GPair y := hg0.2.2.2.2.2.2.2.2.2.2.2
  obtain ⟨g, hg⟩ : ∃ g, g = W.heap.size := ⟨_, rfl⟩
  obtain ⟨ls, hls⟩ : ∃ n, n = x.set.length := ⟨_, rfl⟩
  obtain ⟨lp, hlp⟩ : ∃ n, n = x.prs.length := ⟨_, rfl⟩
  obtain ⟨wA, hwA⟩ : ∃ wA, wA = W.alloc (.cells #[.int .i64 op, .int .i64 fr, .int .i64 x.k, .int .i64 x.s, .int .i64 x.a, .int .i64 x.p, .int .i64 x.q, .int .i64 x.n, .int .i64 x.e, .int .i64 x.r, .slice A1 ls c1, .slice A2 lp c2] 70) := ⟨_, rfl⟩
  have hbA : Below W.heap.size W wA := by rw [hwA]; exact (Below.refl _ _).alloc (Nat.le_refl _) _
  have hgA : wA.heap[g]? = some (.cells ([.int .i64 op, .int .i64 fr, .int .i64 x.k, .int .i64 x.s, .int .i64 x.a, .int .i64 x.p, .int .i64 x.q, .int .i64 x.n, .int .i64 x.e, .int .i64 x.r, .slice A1 ls c1, .slice A2 lp c2] : List Value).toArray 70 (0, 0)) := by rw [hwA, hg]; exact alloc_at W _
  have hgm := greatMessage x A1 A2 c1 c2 wA (hm1.below hbA) hgp
  unfold msgV at hgm
  rw [← hls, ← hlp] at hgm
  have HGM := Aside0.mk hgm
  have HWA := Aside0.mk (And.intro hwA hg)
  have HB0 := Aside0.mk hbA
  have HGA := Aside0.mk hgA
  have a0 : wA.cell? ⟨g, 0, none⟩ = some (.int .i64 op) := cell_of_blk hgA
  have a1 : wA.cell? ⟨g, 1, none⟩ = some (.int .i64 fr) := cell_of_blk hgA
  have a2 : wA.cell? ⟨g, 2, none⟩ = some (.int .i64 x.k) := cell_of_blk hgA
  have a3 : wA.cell? ⟨g, 3, none⟩ = some (.int .i64 x.s) := cell_of_blk hgA
  have a4 : wA.cell? ⟨g, 4, none⟩ = some (.int .i64 x.a) := cell_of_blk hgA
  have a5 : wA.cell? ⟨g, 5, none⟩ = some (.int .i64 x.p) := cell_of_blk hgA
  have a6 : wA.cell? ⟨g, 6, none⟩ = some (.int .i64 x.q) := cell_of_blk hgA
  have a7 : wA.cell? ⟨g, 7, none⟩ = some (.int .i64 x.n) := cell_of_blk hgA
  have a8 : wA.cell? ⟨g, 8, none⟩ = some (.int .i64 x.e) := cell_of_blk hgA
  have a9 : wA.cell? ⟨g, 9, none⟩ = some (.int .i64 x.r) := cell_of_blk hgA
  have a10 : wA.cell? ⟨g, 10, none⟩ = some (.slice A1 ls c1) := cell_of_blk hgA
  have a11 : wA.cell? ⟨g, 11, none⟩ = some (.slice A2 lp c2) := cell_of_blk hgA
  have hum := Try.underlying45
  have hua := Try.underlying70
  rw [show (Value.agg (rawL ⟨op, fr, x⟩ (.slice A1 x.set.length c1) (.slice A2 x.prs.length c2)).toArray) = .agg #[.int .i64 op, .int .i64 fr, .int .i64 x.k, .int .i64 x.s, .int .i64 x.a, .int .i64 x.p, .int .i64 x.q, .int .i64 x.n, .int .i64 x.e, .int .i64 x.r, .slice A1 ls c1, .slice A2 lp c2] from by rw [hls, hlp]; rfl]
  clear hk0 hg0 hm1 hgp hg hls hlp hwA hbA hgA hgm
  go_enter Try.func8, Try.ntmps8
  go_upto_region 1 with (fail)
  rw [← HWA.out.1, ← HWA.out.2]
  go_wp2_with fail
  refine HGM.out.mono ?_
  rintro e w1 ⟨⟨r, rfl, hr⟩, hb1⟩
  have HG1 := Aside0.mk ((hb1.block g (blk_lt' HGA.out)).trans HGA.out)
  have HB1 := Aside0.mk (below_then HB0.out HB0.out.size hb1)
  clear hr hb1 a0 a1 a2 a3 a4 a5 a6 a7 a8 a9 a10 a11
  cases r
  case' true =>
    go_wp2_with fail
    refine (awake22 w1).mono ?_
    rintro e w2 ⟨rfl, hb2⟩
    have HB2 := Aside0.mk (below_then HB1.out HB1.out.size hb2)
    clear hb2
    go_wp2_with fail
    go_ret
    exact ⟨rfl, HB2.out⟩
  go_wp2_with fail
  refine (tick_none w1).mono ?_
  rintro e w2 ⟨rfl, hb⟩
  have HG2 := Aside0.mk ((hb.block g (blk_lt' HG1.out)).trans HG1.out)
  have HB2 := Aside0.mk (below_then HB1.out HB1.out.size hb)
  clear hb
  have b0 : w2.cell? ⟨g, 0, none⟩ = some (.int .i64 op) := cell_of_blk HG2.out
  have b1 : w2.cell? ⟨g, 1, none⟩ = some (.int .i64 fr) := cell_of_blk HG2.out
  have b2 : w2.cell? ⟨g, 2, none⟩ = some (.int .i64 x.k) := cell_of_blk HG2.out
  have b3 : w2.cell? ⟨g, 3, none⟩ = some (.int .i64 x.s) := cell_of_blk HG2.out
  have b4 : w2.cell? ⟨g, 4, none⟩ = some (.int .i64 x.a) := cell_of_blk HG2.out
  have b5 : w2.cell? ⟨g, 5, none⟩ = some (.int .i64 x.p) := cell_of_blk HG2.out
  have b6 : w2.cell? ⟨g, 6, none⟩ = some (.int .i64 x.q) := cell_of_blk HG2.out
  have b7 : w2.cell? ⟨g, 7, none⟩ = some (.int .i64 x.n) := cell_of_blk HG2.out
  have b8 : w2.cell? ⟨g, 8, none⟩ = some (.int .i64 x.e) := cell_of_blk HG2.out
  have b9 : w2.cell? ⟨g, 9, none⟩ = some (.int .i64 x.r) := cell_of_blk HG2.out
  have b10 : w2.cell? ⟨g, 10, none⟩ = some (.slice A1 ls c1) := cell_of_blk HG2.out
  have b11 : w2.cell? ⟨g, 11, none⟩ = some (.slice A2 lp c2) := cell_of_blk HG2.out
  go_wp2_with fail
  refine (hear_none w2 fr x A1 A2 ls lp c1 c2).mono ?_
  rintro e w3 ⟨rfl, hb⟩
  have HB3 := Aside0.mk (below_then HB2.out HB2.out.size hb)
  clear hb b0 b1 b2 b3 b4 b5 b6 b7 b8 b9 b10 b11
  go_wp2_with fail
  refine (state_none w3).mono ?_
  rintro e w4 ⟨rfl, hb⟩
  have HB4 := Aside0.mk (below_then HB3.out HB3.out.size hb)
  clear hb
  go_wp2_with fail
  refine (winner_none w4 0).mono ?_
  rintro e w5 ⟨rfl, hb⟩
  have HB5 := Aside0.mk (below_then HB4.out HB4.out.size hb)
  clear hb
  go_wp2_with fail
  refine (now_none w5).mono ?_
  rintro e w6 ⟨rfl, hb⟩
  have HB6 := Aside0.mk (below_then HB5.out HB5.out.size hb)
  clear hb
  go_wp2_with fail
  refine (wake_none w6).mono ?_
  rintro e w7 ⟨rfl, hb⟩
  have HB7 := Aside0.mk (below_then HB6.out HB6.out.size hb)
  clear hb
  go_wp2_with fail
  refine (winners_none w7).mono ?_
  rintro e w8 ⟨rfl, hb⟩
  have HB8 := Aside0.mk (below_then HB7.out HB7.out.size hb)
  clear hb
  go_wp2_with fail
  refine (awake22 w8).mono ?_
  rintro e w9 ⟨rfl, hb⟩
  have HB9 := Aside0.mk (below_then HB8.out HB8.out.size hb)
  clear hb
  go_wp2_with fail
  go_ret
  exact ⟨rfl, HB9.out⟩
end Go.Proofs.Ytbnhhlahbhjogaa.K
