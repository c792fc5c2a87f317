/- The master: ends, done. WRITTEN BY wip/gen_y11.py. -/
import Derived.Test.YtbnhhlahbhjogaaY10
import Derived.Deep.RegionHeldLaw
set_option linter.unusedVariables false
set_option linter.unusedSimpArgs false
set_option maxRecDepth 100000
namespace Go.Proofs.Ytbnhhlahbhjogaa.K
open Go.RowKit Go.Proofs.YtbnhhlahbhjogaaW.PrintWords Go.Proofs.YtbnhhlahbhjogaaW.PrintLast Go.Proofs.YtbnhhlahbhjogaaW.PrintMore Go.Proofs.Ytbnhhlahbhjogaa.U Go.Proofs.Ytbnhhlahbhjogaa.T

/-- One record just made, its set's row of one's own. -/
theorem recs_lit (w : World) (base : Nat) (x : RecD) (sv : Value) (g : Nat) (hg : base ≤ g) (ok : Nat → Prop) (hs : Kd.R kI 3 w base ok sv x.set) (hok : ∀ k, ok k → k ≠ g ∧ k < w.heap.size) (hp : x.prs = []) (hb : w.heap[g]? = some (.cells (rawR x sv (.slice none 0 0)).toArray 90 (0, 0))) : RecsP w base (.slice (some ⟨g, 0, none⟩) 1 1) [x] := by
  obtain ⟨A, n, rfl, _, _⟩ := Kd.R_reads hs
  classical
  refine ⟨[⟨x, .slice A x.set.length n, .slice none 0 0⟩], fun k => if ok k then some 0 else none, ⟨own_lit kRR flat_RR 90 w base _ _ ⟨rfl, rfl, rfl⟩ g hg hb, fun j hj => ?_, fun j hj => ?_, fun k hk => ?_, fun k hk => ?_⟩, rfl⟩
  · obtain rfl : j = 0 := by simpa using hj
    exact Kd.R_mono hs (fun k hk => if_pos hk)
  · obtain rfl : j = 0 := by simpa using hj
    show Kd.R kPair 113 w base _ (.slice none 0 0) x.prs
    rw [hp]
    exact Kd.R_nil _ _ _ _ _
  · injection hk with hk
    exact if_neg (fun h => (hok k h).1 hk.symm)
  · by_cases h : ok k
    · exact (hok k h).2
    · rw [if_neg h] at hk
      exact absurd rfl hk
section
variable {w w' : World} {gM gS gT : Nat} {F S : Nat → Prop} {c : CfgD} {h : CfH} {zs : List SpV} {C : List Int} {ok : Nat → Prop} {m : MaS}
set_option maxHeartbeats 1600000 in
theorem mEnds (p : MaP w gM gS gT F c h zs C ok m) (st why : Int) (rk rp rs ra rr : Int) : Calls Try.prog 48 #[.pointer (some ⟨gM, 0, none⟩), .int .i64 st, .int .i64 why, recV ⟨rk, rp, rs, ra, rr, [], []⟩ (.slice none 0 0) (.slice none 0 0)] w fun e w' => ∃ v, e = .returned v ∧ RecsP w' w.heap.size v [⟨rk, rp, rs, ra, rr, [], []⟩] ∧ MaP w' gM gS gT F c h zs C ok { m with st := st, why := why } ∧ Ch w w' F := by
  obtain ⟨g, hg⟩ : ∃ g, g = w.heap.size := ⟨_, rfl⟩
  obtain ⟨wA, hwA⟩ : ∃ wA, wA = w.alloc (.cells (rawR ⟨rk, rp, rs, ra, rr, [], []⟩ (.slice none 0 0) (.slice none 0 0)).toArray 90) := ⟨_, rfl⟩
  have hbA : Below w.heap.size w wA := by rw [hwA]; exact (Below.refl _ _).alloc (Nat.le_refl _) _
  have hgA : wA.heap[g]? = some (.cells (rawR ⟨rk, rp, rs, ra, rr, [], []⟩ (.slice none 0 0) (.slice none 0 0)).toArray 90 (0, 0)) := by rw [hwA, hg]; exact alloc_at w _
  have q := p.below hbA
  have q1 := q.putM 18 (.int .i64 st) { m with st := st } rfl rfl q.rd
  have q2 := q1.putM 19 (.int .i64 why) { m with st := st, why := why } rfl rfl q.rd
  have hc : Ch wA ((wA.setCell ⟨gM, 18, none⟩ (.int .i64 st)).setCell ⟨gM, 19, none⟩ (.int .i64 why)) (fun k => k = gM) := ((Ch.refl wA (fun k => k = gM)).setCell ⟨gM, 18, none⟩ _ rfl).setCell ⟨gM, 19, none⟩ _ rfl
  have hgM := p.flt _ p.fM
  have hg2 := hc.blk hgA (by omega)
  have c18 := q.c_st
  have z18 := q.frM 18
  have c19 : (wA.setCell ⟨gM, 18, none⟩ (.int .i64 st)).cell? ⟨gM, 19, none⟩ = some (.int .i64 m.why) := q1.c_why
  have z19 := q1.frM 19
  obtain ⟨w2, hw2⟩ : ∃ w2, w2 = (wA.setCell ⟨gM, 18, none⟩ (.int .i64 st)).setCell ⟨gM, 19, none⟩ (.int .i64 why) := ⟨_, rfl⟩
  rw [← hw2] at q2 hc hg2
  have hend : Ch w w2 F := (Ch.of_below hbA F).trans hc (fun k _ hk => by rw [hk]; exact p.fM)
  have hb3 := (Below.refl w2.heap.size w2).alloc (Nat.le_refl _) (.cells (rawR ⟨rk, rp, rs, ra, rr, [], []⟩ (.slice none 0 0) (.slice none 0 0)).toArray 90)
  have HEND := Aside0.mk (And.intro (recs_lit (w2.alloc (.cells (rawR ⟨rk, rp, rs, ra, rr, [], []⟩ (.slice none 0 0) (.slice none 0 0)).toArray 90)) w.heap.size ⟨rk, rp, rs, ra, rr, [], []⟩ (.slice none 0 0) w2.heap.size hend.size (fun _ => False) (Kd.R_nil _ _ _ _ _) (fun _ h => h.elim) rfl (alloc_at w2 _)) (And.intro (q2.below hb3) (hend.trans (Ch.of_below hb3 F) (fun _ _ h => h))))
  have y0 : w2.cell? ⟨g, 0, none⟩ = some (.int .i64 rk) := cell_of_blk hg2
  have y1 : w2.cell? ⟨g, 1, none⟩ = some (.int .i64 rp) := cell_of_blk hg2
  have y2 : w2.cell? ⟨g, 2, none⟩ = some (.int .i64 rs) := cell_of_blk hg2
  have y3 : w2.cell? ⟨g, 3, none⟩ = some (.int .i64 ra) := cell_of_blk hg2
  have y4 : w2.cell? ⟨g, 4, none⟩ = some (.int .i64 rr) := cell_of_blk hg2
  have y5 : w2.cell? ⟨g, 5, none⟩ = some (.slice none 0 0) := cell_of_blk hg2
  have y6 : w2.cell? ⟨g, 6, none⟩ = some (.slice none 0 0) := cell_of_blk hg2
  have hu := Try.underlying90
  have HWA := Aside0.mk hwA
  have HG := Aside0.mk hg
  have HW2 := Aside0.mk hw2
  clear p q q1 q2 hc hg2 hend hb3 hwA hg hbA hgA hgM hw2
  unfold recV
  go_enter Try.func48, Try.ntmps48
  go_upto_region 1 with (fail)
  rw [show w.alloc (.cells #[.int .i64 rk, .int .i64 rp, .int .i64 rs, .int .i64 ra, .int .i64 rr, .slice none 0 0, .slice none 0 0] 90) = wA from HWA.out.symm, ← HG.out]
  go_upto_region 2 with (fail)
  rw [← HW2.out]
  clear c18 z18 c19 z19
  go_wp2_with fail
  go_ret
  exact ⟨_, rfl, HEND.out⟩
end
end Go.Proofs.Ytbnhhlahbhjogaa.K
