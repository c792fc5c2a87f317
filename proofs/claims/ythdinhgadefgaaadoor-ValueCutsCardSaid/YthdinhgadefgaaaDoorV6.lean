/- The statement ValueSames. -/
import Derived.Test.YthdinhgadefgaaaDoorV5
import Derived.Deep.RegionHeld3
set_option linter.unusedVariables false
set_option linter.unusedSimpArgs false
set_option maxRecDepth 100000
namespace Go.Proofs.YthdinhgadefgaaaDoor.K
open Go.RowKit Go.Proofs.YthdinhgadefgaaaDoorW.PrintWords Go.Proofs.YthdinhgadefgaaaDoorW.PrintLast Go.Proofs.YthdinhgadefgaaaDoorW.PrintMore Go.Proofs.YthdinhgadefgaaaDoor.U Go.Proofs.YthdinhgadefgaaaDoor.T Go.Proofs.YthdinhgadefgaaaDoor.V

theorem two_below {w w1 w2 : World} (h : Below w.heap.size w w1) (k : Below w1.heap.size w1 w2) : Below w.heap.size w w2 := below_then h h.size k
/-- Only new blocks since w. -/
def HeldV (w w' : World) : Prop := Below w.heap.size w w'
set_option maxHeartbeats 1600000 in
theorem valueSames_T (W : World) (hE : Env W) (ia : Int) (sa : ByteArray) (tb : Bool) (ib : Int) (sb : ByteArray) :
    Calls Tryd.prog 3 #[.agg #[.bool true, .int .i64 ia, .string sa], .agg #[.bool tb, .int .i64 ib, .string sb]] W fun e w' => e = .returned (.bool true) ∧ Below W.heap.size W w' := by
  have HE := Aside0.mk hE
  clear hE
  obtain ⟨gA, hgA⟩ : ∃ g, g = W.heap.size := ⟨_, rfl⟩
  obtain ⟨gB, hgB⟩ : ∃ g, g = W.heap.size + 1 := ⟨_, rfl⟩
  obtain ⟨w1, hw1⟩ : ∃ w, w = W.alloc (.cells #[.bool true, .int .i64 ia, .string sa] 23) := ⟨_, rfl⟩
  have hs1 : w1.heap.size = gB := by rw [hw1, hgB]; exact World.size_alloc _ _
  obtain ⟨w2, hw2⟩ : ∃ w, w = w1.alloc (.cells #[.bool tb, .int .i64 ib, .string sb] 23) := ⟨_, rfl⟩
  have hb1 := (Below.refl W.heap.size W).alloc (Nat.le_refl _) (.cells #[.bool true, .int .i64 ia, .string sa] 23)
  have hb2 := (Below.refl w1.heap.size w1).alloc (Nat.le_refl _) (.cells #[.bool tb, .int .i64 ib, .string sb] 23)
  rw [← hw1] at hb1
  rw [← hw2] at hb2
  have hA1 : w1.heap[gA]? = some (.cells ([.bool true, .int .i64 ia, .string sa] : List Value).toArray 23 (0, 0)) := by rw [hw1, hgA]; exact alloc_at W _
  have hA2 := (hb2.block gA (blk_lt' hA1)).trans hA1
  have hB2 : w2.heap[gB]? = some (.cells ([.bool tb, .int .i64 ib, .string sb] : List Value).toArray 23 (0, 0)) := by rw [hw2, ← hs1]; exact alloc_at w1 _
  have HBb := Aside0.mk (two_below hb1 hb2)
  have HA2 := Aside0.mk hA2
  have HB2 := Aside0.mk hB2
  have HW1 := Aside0.mk hw1
  have HW2 := Aside0.mk hw2
  have HGA := Aside0.mk hgA
  have HGB := Aside0.mk hgB
  have ca2 : w2.cell? ⟨gA, 2, none⟩ = some (.string sa) := cell_of_blk hA2
  have cb2 : w2.cell? ⟨gB, 2, none⟩ = some (.string sb) := cell_of_blk hB2
  by_cases hbig : (100 : Int) < sa.size ∨ (100 : Int) < sb.size
  · have hor : (100 : Int) < sa.size ∨ (¬ (100 : Int) < sa.size ∧ (100 : Int) < sb.size) := by omega
    clear hbig hs1 hw1 hw2 hb1 hb2 hA1 hA2 hB2 hgA hgB
    rcases hor with q1 | ⟨q1, q2⟩
    all_goals
      go_enter Tryd.func3, Tryd.ntmps3
      go_upto_region 1 with (fail)
      rw [← HGB.out, ← HGA.out, ← HW1.out, ← HW2.out]
      go_wp2_with fail
      refine (awake4 w2 (HE.out.below HBb.out)).mono ?_
      rintro e w3 ⟨rfl, hb3⟩
      have HB3 := Aside0.mk (two_below HBb.out hb3)
      clear hb3
      go_wp2_with fail
      go_ret
      exact ⟨rfl, HB3.out⟩
  · have q1 : ¬ (100 : Int) < sa.size := by omega
    have q2 : ¬ (100 : Int) < sb.size := by omega
    clear hbig
    have ca0 : w2.cell? ⟨gA, 0, none⟩ = some (.bool true) := cell_of_blk hA2
    have ca1 : w2.cell? ⟨gA, 1, none⟩ = some (.int .i64 ia) := cell_of_blk hA2
    have cb0 : w2.cell? ⟨gB, 0, none⟩ = some (.bool tb) := cell_of_blk hB2
    have cb1 : w2.cell? ⟨gB, 1, none⟩ = some (.int .i64 ib) := cell_of_blk hB2
    obtain ⟨gC, hgC⟩ : ∃ g, g = w2.heap.size := ⟨_, rfl⟩
    obtain ⟨gD, hgD⟩ : ∃ g, g = w2.heap.size + 1 := ⟨_, rfl⟩
    obtain ⟨w3, hw3⟩ : ∃ w, w = w2.alloc (.cells #[.bool true, .int .i64 ib, .string sa] 23) := ⟨_, rfl⟩
    have hs3 : w3.heap.size = gD := by rw [hw3, hgD]; exact World.size_alloc _ _
    obtain ⟨w4, hw4⟩ : ∃ w, w = w3.alloc (.cells #[.bool false, .int .i64 ia, .string sa] 23) := ⟨_, rfl⟩
    have hb3 := (Below.refl w2.heap.size w2).alloc (Nat.le_refl _) (.cells #[.bool true, .int .i64 ib, .string sa] 23)
    have hb4 := (Below.refl w3.heap.size w3).alloc (Nat.le_refl _) (.cells #[.bool false, .int .i64 ia, .string sa] 23)
    rw [← hw3] at hb3
    rw [← hw4] at hb4
    have hC3 : w3.heap[gC]? = some (.cells ([.bool true, .int .i64 ib, .string sa] : List Value).toArray 23 (0, 0)) := by rw [hw3, hgC]; exact alloc_at w2 _
    have hC4 := (hb4.block gC (blk_lt' hC3)).trans hC3
    have hD4 : w4.heap[gD]? = some (.cells ([.bool false, .int .i64 ia, .string sa] : List Value).toArray 23 (0, 0)) := by rw [hw4, ← hs3]; exact alloc_at w3 _
    have hb24 := two_below hb3 hb4
    have hA4 := (hb24.block gA (blk_lt' hA2)).trans hA2
    have hB4 := (hb24.block gB (blk_lt' hB2)).trans hB2
    have hnA := World.new_ne w2 _ ca0
    have hnB := World.new_ne w2 _ cb0
    have hlA : gA < w2.heap.size := blk_lt' hA2
    have hlB : gB < w2.heap.size := blk_lt' hB2
    have hnA1 : gA ≠ w2.heap.size + 1 := by omega
    have hnB1 : gB ≠ w2.heap.size + 1 := by omega
    have HS : Aside0 (∀ w', HeldV w4 w' → (w'.cell? ⟨gA, 0, none⟩ = some (.bool true) ∧ w'.cell? ⟨gA, 1, none⟩ = some (.int .i64 ia) ∧ w'.cell? ⟨gA, 2, none⟩ = some (.string sa) ∧ w'.cell? ⟨gB, 0, none⟩ = some (.bool tb) ∧ w'.cell? ⟨gB, 1, none⟩ = some (.int .i64 ib) ∧ w'.cell? ⟨gB, 2, none⟩ = some (.string sb) ∧ w'.cell? ⟨gC, 0, none⟩ = some (.bool true) ∧ w'.cell? ⟨gC, 1, none⟩ = some (.int .i64 ib) ∧ w'.cell? ⟨gC, 2, none⟩ = some (.string sa) ∧ w'.cell? ⟨gD, 0, none⟩ = some (.bool false) ∧ w'.cell? ⟨gD, 1, none⟩ = some (.int .i64 ia) ∧ w'.cell? ⟨gD, 2, none⟩ = some (.string sa)) ∧ HeldV w4 w') := ⟨fun w' hb' => by
      have hb : Below w4.heap.size w4 w' := hb'
      have a := (hb.block gA (blk_lt' hA4)).trans hA4
      have b := (hb.block gB (blk_lt' hB4)).trans hB4
      have c := (hb.block gC (blk_lt' hC4)).trans hC4
      have d := (hb.block gD (blk_lt' hD4)).trans hD4
      exact ⟨⟨cell_of_blk a, cell_of_blk a, cell_of_blk a, cell_of_blk b, cell_of_blk b, cell_of_blk b, cell_of_blk c, cell_of_blk c, cell_of_blk c, cell_of_blk d, cell_of_blk d, cell_of_blk d⟩, hb'⟩⟩
    have HB4 := Aside0.mk (two_below HBb.out hb24)
    have HW3 := Aside0.mk hw3
    have HW4 := Aside0.mk hw4
    have HGC := Aside0.mk hgC
    have HGD := Aside0.mk hgD
    obtain ⟨r, hr⟩ : ∃ r : Bool, r = true ↔ sameV ⟨true, ia, sa⟩ ⟨tb, ib, sb⟩ := ⟨@decide _ (Classical.propDecidable _), @decide_eq_true_iff _ (Classical.propDecidable _)⟩
    have hrs : r = true ↔ sameV ⟨tb, ib, sb⟩ ⟨true, ia, sa⟩ := by
      rw [hr]
      unfold sameV
      simp only
      cases tb <;> simp [eq_comm]
    have H1 : Aside0 (∀ w', HeldV w4 w' → Calls Tryd.prog 15 #[.agg #[.bool true, .int .i64 ia, .string sa], .agg #[.bool tb, .int .i64 ib, .string sb]] w' fun e w'' => e = .returned (.bool r) ∧ HeldV w4 w'') := ⟨fun w' h => (valSame ⟨true, ia, sa⟩ ⟨tb, ib, sb⟩ r hr w').mono (fun e w'' k => ⟨k.1, two_below (h : Below w4.heap.size w4 w') k.2⟩)⟩
    have H2 : Aside0 (∀ w', HeldV w4 w' → Calls Tryd.prog 16 #[.agg #[.bool true, .int .i64 ia, .string sa], .agg #[.bool tb, .int .i64 ib, .string sb]] w' fun e w'' => e = .returned (.bool r) ∧ HeldV w4 w'') := ⟨fun w' h => (refSame ⟨true, ia, sa⟩ ⟨tb, ib, sb⟩ r hr w').mono (fun e w'' k => ⟨k.1, two_below (h : Below w4.heap.size w4 w') k.2⟩)⟩
    have H3 : Aside0 (∀ w', HeldV w4 w' → Calls Tryd.prog 15 #[.agg #[.bool tb, .int .i64 ib, .string sb], .agg #[.bool true, .int .i64 ia, .string sa]] w' fun e w'' => e = .returned (.bool r) ∧ HeldV w4 w'') := ⟨fun w' h => (valSame ⟨tb, ib, sb⟩ ⟨true, ia, sa⟩ r hrs w').mono (fun e w'' k => ⟨k.1, two_below (h : Below w4.heap.size w4 w') k.2⟩)⟩
    have H4 : Aside0 (∀ w', HeldV w4 w' → Calls Tryd.prog 15 #[.agg #[.bool true, .int .i64 ia, .string sa], .agg #[.bool true, .int .i64 ib, .string sa]] w' fun e w'' => e = .returned (.bool true) ∧ HeldV w4 w'') := ⟨fun w' h => (valSame ⟨true, ia, sa⟩ ⟨true, ib, sa⟩ true (by simp [sameV]) w').mono (fun e w'' k => ⟨k.1, two_below (h : Below w4.heap.size w4 w') k.2⟩)⟩
    have H5 : Aside0 (∀ w', HeldV w4 w' → Calls Tryd.prog 15 #[.agg #[.bool true, .int .i64 ia, .string sa], .agg #[.bool false, .int .i64 ia, .string sa]] w' fun e w'' => e = .returned (.bool false) ∧ HeldV w4 w'') := ⟨fun w' h => (valSame ⟨true, ia, sa⟩ ⟨false, ia, sa⟩ false (by simp [sameV]) w').mono (fun e w'' k => ⟨k.1, two_below (h : Below w4.heap.size w4 w') k.2⟩)⟩
    have H6 : Aside0 (∀ w', HeldV w4 w' → Calls Tryd.prog 14 #[] w' fun e w'' => e = .returned (.bool true) ∧ HeldV w4 w'') := ⟨fun w' h => (awake4 w' (HE.out.below (two_below HB4.out (h : Below w4.heap.size w4 w')))).mono (fun e w'' k => ⟨k.1, two_below (h : Below w4.heap.size w4 w') k.2⟩)⟩
    have hrr : (r == r) = true := by simp
    clear hr hrs hs1 hw1 hw2 hb1 hb2 hA1 hA2 hB2 hgA hgB hs3 hw3 hw4 hb3 hb4 hC3 hC4 hD4 hb24 hA4 hB4 hgC hgD
    go_enter Tryd.func3, Tryd.ntmps3
    go_upto_region 1 with (fail)
    rw [← HGB.out, ← HGA.out, ← HW1.out, ← HW2.out]
    go_wp2_with fail
    rw [← HGD.out, ← HGC.out, ← HW3.out, ← HW4.out]
    clear ca0 ca1 ca2 cb0 cb1 cb2 hnA hnB hlA hlB hnA1 hnB1
    have hh0 : HeldV w4 w4.drew := below_drew1 (Below.refl _ _)
    go_region_held3 (fun w' => (w'.cell? ⟨gA, 0, none⟩ = some (.bool true) ∧ w'.cell? ⟨gA, 1, none⟩ = some (.int .i64 ia) ∧ w'.cell? ⟨gA, 2, none⟩ = some (.string sa) ∧ w'.cell? ⟨gB, 0, none⟩ = some (.bool tb) ∧ w'.cell? ⟨gB, 1, none⟩ = some (.int .i64 ib) ∧ w'.cell? ⟨gB, 2, none⟩ = some (.string sb) ∧ w'.cell? ⟨gC, 0, none⟩ = some (.bool true) ∧ w'.cell? ⟨gC, 1, none⟩ = some (.int .i64 ib) ∧ w'.cell? ⟨gC, 2, none⟩ = some (.string sa) ∧ w'.cell? ⟨gD, 0, none⟩ = some (.bool false) ∧ w'.cell? ⟨gD, 1, none⟩ = some (.int .i64 ia) ∧ w'.cell? ⟨gD, 2, none⟩ = some (.string sa)) ∧ HeldV w4 w') (exact HS.out _ (by assumption))
     (first
      | (go_at_call 15; ((with_reducible refine (H1.out _ (by go_split_ands; assumption)).mono ?_); rintro e wn ⟨rfl, hHz⟩))
      | (go_at_call 16; ((with_reducible refine (H2.out _ (by go_split_ands; assumption)).mono ?_); rintro e wn ⟨rfl, hHz⟩))
      | (go_at_call 15; ((with_reducible refine (H3.out _ (by go_split_ands; assumption)).mono ?_); rintro e wn ⟨rfl, hHz⟩))
      | (go_at_call 15; ((with_reducible refine (H4.out _ (by go_split_ands; assumption)).mono ?_); rintro e wn ⟨rfl, hHz⟩))
      | (go_at_call 15; ((with_reducible refine (H5.out _ (by go_split_ands; assumption)).mono ?_); rintro e wn ⟨rfl, hHz⟩))
      | (go_at_call 14; ((with_reducible refine (H6.out _ (by go_split_ands; assumption)).mono ?_); rintro e wn ⟨rfl, hHz⟩)))
    all_goals
      go_wp2_with fail
      go_ret
      exact ⟨rfl, two_below HB4.out hHz⟩
set_option maxHeartbeats 1600000 in
theorem valueSames_F (W : World) (hE : Env W) (ia : Int) (sa : ByteArray) (tb : Bool) (ib : Int) (sb : ByteArray) :
    Calls Tryd.prog 3 #[.agg #[.bool false, .int .i64 ia, .string sa], .agg #[.bool tb, .int .i64 ib, .string sb]] W fun e w' => e = .returned (.bool true) ∧ Below W.heap.size W w' := by
  have HE := Aside0.mk hE
  clear hE
  obtain ⟨gA, hgA⟩ : ∃ g, g = W.heap.size := ⟨_, rfl⟩
  obtain ⟨gB, hgB⟩ : ∃ g, g = W.heap.size + 1 := ⟨_, rfl⟩
  obtain ⟨w1, hw1⟩ : ∃ w, w = W.alloc (.cells #[.bool false, .int .i64 ia, .string sa] 23) := ⟨_, rfl⟩
  have hs1 : w1.heap.size = gB := by rw [hw1, hgB]; exact World.size_alloc _ _
  obtain ⟨w2, hw2⟩ : ∃ w, w = w1.alloc (.cells #[.bool tb, .int .i64 ib, .string sb] 23) := ⟨_, rfl⟩
  have hb1 := (Below.refl W.heap.size W).alloc (Nat.le_refl _) (.cells #[.bool false, .int .i64 ia, .string sa] 23)
  have hb2 := (Below.refl w1.heap.size w1).alloc (Nat.le_refl _) (.cells #[.bool tb, .int .i64 ib, .string sb] 23)
  rw [← hw1] at hb1
  rw [← hw2] at hb2
  have hA1 : w1.heap[gA]? = some (.cells ([.bool false, .int .i64 ia, .string sa] : List Value).toArray 23 (0, 0)) := by rw [hw1, hgA]; exact alloc_at W _
  have hA2 := (hb2.block gA (blk_lt' hA1)).trans hA1
  have hB2 : w2.heap[gB]? = some (.cells ([.bool tb, .int .i64 ib, .string sb] : List Value).toArray 23 (0, 0)) := by rw [hw2, ← hs1]; exact alloc_at w1 _
  have HBb := Aside0.mk (two_below hb1 hb2)
  have HA2 := Aside0.mk hA2
  have HB2 := Aside0.mk hB2
  have HW1 := Aside0.mk hw1
  have HW2 := Aside0.mk hw2
  have HGA := Aside0.mk hgA
  have HGB := Aside0.mk hgB
  have ca2 : w2.cell? ⟨gA, 2, none⟩ = some (.string sa) := cell_of_blk hA2
  have cb2 : w2.cell? ⟨gB, 2, none⟩ = some (.string sb) := cell_of_blk hB2
  by_cases hbig : (100 : Int) < sa.size ∨ (100 : Int) < sb.size
  · have hor : (100 : Int) < sa.size ∨ (¬ (100 : Int) < sa.size ∧ (100 : Int) < sb.size) := by omega
    clear hbig hs1 hw1 hw2 hb1 hb2 hA1 hA2 hB2 hgA hgB
    rcases hor with q1 | ⟨q1, q2⟩
    all_goals
      go_enter Tryd.func3, Tryd.ntmps3
      go_upto_region 1 with (fail)
      rw [← HGB.out, ← HGA.out, ← HW1.out, ← HW2.out]
      go_wp2_with fail
      refine (awake4 w2 (HE.out.below HBb.out)).mono ?_
      rintro e w3 ⟨rfl, hb3⟩
      have HB3 := Aside0.mk (two_below HBb.out hb3)
      clear hb3
      go_wp2_with fail
      go_ret
      exact ⟨rfl, HB3.out⟩
  · have q1 : ¬ (100 : Int) < sa.size := by omega
    have q2 : ¬ (100 : Int) < sb.size := by omega
    clear hbig
    have ca0 : w2.cell? ⟨gA, 0, none⟩ = some (.bool false) := cell_of_blk hA2
    have ca1 : w2.cell? ⟨gA, 1, none⟩ = some (.int .i64 ia) := cell_of_blk hA2
    have cb0 : w2.cell? ⟨gB, 0, none⟩ = some (.bool tb) := cell_of_blk hB2
    have cb1 : w2.cell? ⟨gB, 1, none⟩ = some (.int .i64 ib) := cell_of_blk hB2
    obtain ⟨gC, hgC⟩ : ∃ g, g = w2.heap.size := ⟨_, rfl⟩
    obtain ⟨gD, hgD⟩ : ∃ g, g = w2.heap.size + 1 := ⟨_, rfl⟩
    obtain ⟨w3, hw3⟩ : ∃ w, w = w2.alloc (.cells #[.bool false, .int .i64 ia, .string sb] 23) := ⟨_, rfl⟩
    have hs3 : w3.heap.size = gD := by rw [hw3, hgD]; exact World.size_alloc _ _
    obtain ⟨w4, hw4⟩ : ∃ w, w = w3.alloc (.cells #[.bool true, .int .i64 ia, .string sa] 23) := ⟨_, rfl⟩
    have hb3 := (Below.refl w2.heap.size w2).alloc (Nat.le_refl _) (.cells #[.bool false, .int .i64 ia, .string sb] 23)
    have hb4 := (Below.refl w3.heap.size w3).alloc (Nat.le_refl _) (.cells #[.bool true, .int .i64 ia, .string sa] 23)
    rw [← hw3] at hb3
    rw [← hw4] at hb4
    have hC3 : w3.heap[gC]? = some (.cells ([.bool false, .int .i64 ia, .string sb] : List Value).toArray 23 (0, 0)) := by rw [hw3, hgC]; exact alloc_at w2 _
    have hC4 := (hb4.block gC (blk_lt' hC3)).trans hC3
    have hD4 : w4.heap[gD]? = some (.cells ([.bool true, .int .i64 ia, .string sa] : List Value).toArray 23 (0, 0)) := by rw [hw4, ← hs3]; exact alloc_at w3 _
    have hb24 := two_below hb3 hb4
    have hA4 := (hb24.block gA (blk_lt' hA2)).trans hA2
    have hB4 := (hb24.block gB (blk_lt' hB2)).trans hB2
    have hnA := World.new_ne w2 _ ca0
    have hnB := World.new_ne w2 _ cb0
    have hlA : gA < w2.heap.size := blk_lt' hA2
    have hlB : gB < w2.heap.size := blk_lt' hB2
    have hnA1 : gA ≠ w2.heap.size + 1 := by omega
    have hnB1 : gB ≠ w2.heap.size + 1 := by omega
    have HS : Aside0 (∀ w', HeldV w4 w' → (w'.cell? ⟨gA, 0, none⟩ = some (.bool false) ∧ w'.cell? ⟨gA, 1, none⟩ = some (.int .i64 ia) ∧ w'.cell? ⟨gA, 2, none⟩ = some (.string sa) ∧ w'.cell? ⟨gB, 0, none⟩ = some (.bool tb) ∧ w'.cell? ⟨gB, 1, none⟩ = some (.int .i64 ib) ∧ w'.cell? ⟨gB, 2, none⟩ = some (.string sb) ∧ w'.cell? ⟨gC, 0, none⟩ = some (.bool false) ∧ w'.cell? ⟨gC, 1, none⟩ = some (.int .i64 ia) ∧ w'.cell? ⟨gC, 2, none⟩ = some (.string sb) ∧ w'.cell? ⟨gD, 0, none⟩ = some (.bool true) ∧ w'.cell? ⟨gD, 1, none⟩ = some (.int .i64 ia) ∧ w'.cell? ⟨gD, 2, none⟩ = some (.string sa)) ∧ HeldV w4 w') := ⟨fun w' hb' => by
      have hb : Below w4.heap.size w4 w' := hb'
      have a := (hb.block gA (blk_lt' hA4)).trans hA4
      have b := (hb.block gB (blk_lt' hB4)).trans hB4
      have c := (hb.block gC (blk_lt' hC4)).trans hC4
      have d := (hb.block gD (blk_lt' hD4)).trans hD4
      exact ⟨⟨cell_of_blk a, cell_of_blk a, cell_of_blk a, cell_of_blk b, cell_of_blk b, cell_of_blk b, cell_of_blk c, cell_of_blk c, cell_of_blk c, cell_of_blk d, cell_of_blk d, cell_of_blk d⟩, hb'⟩⟩
    have HB4 := Aside0.mk (two_below HBb.out hb24)
    have HW3 := Aside0.mk hw3
    have HW4 := Aside0.mk hw4
    have HGC := Aside0.mk hgC
    have HGD := Aside0.mk hgD
    obtain ⟨r, hr⟩ : ∃ r : Bool, r = true ↔ sameV ⟨false, ia, sa⟩ ⟨tb, ib, sb⟩ := ⟨@decide _ (Classical.propDecidable _), @decide_eq_true_iff _ (Classical.propDecidable _)⟩
    have hrs : r = true ↔ sameV ⟨tb, ib, sb⟩ ⟨false, ia, sa⟩ := by
      rw [hr]
      unfold sameV
      simp only
      cases tb <;> simp [eq_comm]
    have H1 : Aside0 (∀ w', HeldV w4 w' → Calls Tryd.prog 15 #[.agg #[.bool false, .int .i64 ia, .string sa], .agg #[.bool tb, .int .i64 ib, .string sb]] w' fun e w'' => e = .returned (.bool r) ∧ HeldV w4 w'') := ⟨fun w' h => (valSame ⟨false, ia, sa⟩ ⟨tb, ib, sb⟩ r hr w').mono (fun e w'' k => ⟨k.1, two_below (h : Below w4.heap.size w4 w') k.2⟩)⟩
    have H2 : Aside0 (∀ w', HeldV w4 w' → Calls Tryd.prog 16 #[.agg #[.bool false, .int .i64 ia, .string sa], .agg #[.bool tb, .int .i64 ib, .string sb]] w' fun e w'' => e = .returned (.bool r) ∧ HeldV w4 w'') := ⟨fun w' h => (refSame ⟨false, ia, sa⟩ ⟨tb, ib, sb⟩ r hr w').mono (fun e w'' k => ⟨k.1, two_below (h : Below w4.heap.size w4 w') k.2⟩)⟩
    have H3 : Aside0 (∀ w', HeldV w4 w' → Calls Tryd.prog 15 #[.agg #[.bool tb, .int .i64 ib, .string sb], .agg #[.bool false, .int .i64 ia, .string sa]] w' fun e w'' => e = .returned (.bool r) ∧ HeldV w4 w'') := ⟨fun w' h => (valSame ⟨tb, ib, sb⟩ ⟨false, ia, sa⟩ r hrs w').mono (fun e w'' k => ⟨k.1, two_below (h : Below w4.heap.size w4 w') k.2⟩)⟩
    have H4 : Aside0 (∀ w', HeldV w4 w' → Calls Tryd.prog 15 #[.agg #[.bool false, .int .i64 ia, .string sa], .agg #[.bool false, .int .i64 ia, .string sb]] w' fun e w'' => e = .returned (.bool true) ∧ HeldV w4 w'') := ⟨fun w' h => (valSame ⟨false, ia, sa⟩ ⟨false, ia, sb⟩ true (by simp [sameV]) w').mono (fun e w'' k => ⟨k.1, two_below (h : Below w4.heap.size w4 w') k.2⟩)⟩
    have H5 : Aside0 (∀ w', HeldV w4 w' → Calls Tryd.prog 15 #[.agg #[.bool false, .int .i64 ia, .string sa], .agg #[.bool true, .int .i64 ia, .string sa]] w' fun e w'' => e = .returned (.bool false) ∧ HeldV w4 w'') := ⟨fun w' h => (valSame ⟨false, ia, sa⟩ ⟨true, ia, sa⟩ false (by simp [sameV]) w').mono (fun e w'' k => ⟨k.1, two_below (h : Below w4.heap.size w4 w') k.2⟩)⟩
    have H6 : Aside0 (∀ w', HeldV w4 w' → Calls Tryd.prog 14 #[] w' fun e w'' => e = .returned (.bool true) ∧ HeldV w4 w'') := ⟨fun w' h => (awake4 w' (HE.out.below (two_below HB4.out (h : Below w4.heap.size w4 w')))).mono (fun e w'' k => ⟨k.1, two_below (h : Below w4.heap.size w4 w') k.2⟩)⟩
    have hrr : (r == r) = true := by simp
    clear hr hrs hs1 hw1 hw2 hb1 hb2 hA1 hA2 hB2 hgA hgB hs3 hw3 hw4 hb3 hb4 hC3 hC4 hD4 hb24 hA4 hB4 hgC hgD
    go_enter Tryd.func3, Tryd.ntmps3
    go_upto_region 1 with (fail)
    rw [← HGB.out, ← HGA.out, ← HW1.out, ← HW2.out]
    go_wp2_with fail
    rw [← HGD.out, ← HGC.out, ← HW3.out, ← HW4.out]
    clear ca0 ca1 ca2 cb0 cb1 cb2 hnA hnB hlA hlB hnA1 hnB1
    have hh0 : HeldV w4 w4.drew := below_drew1 (Below.refl _ _)
    go_region_held3 (fun w' => (w'.cell? ⟨gA, 0, none⟩ = some (.bool false) ∧ w'.cell? ⟨gA, 1, none⟩ = some (.int .i64 ia) ∧ w'.cell? ⟨gA, 2, none⟩ = some (.string sa) ∧ w'.cell? ⟨gB, 0, none⟩ = some (.bool tb) ∧ w'.cell? ⟨gB, 1, none⟩ = some (.int .i64 ib) ∧ w'.cell? ⟨gB, 2, none⟩ = some (.string sb) ∧ w'.cell? ⟨gC, 0, none⟩ = some (.bool false) ∧ w'.cell? ⟨gC, 1, none⟩ = some (.int .i64 ia) ∧ w'.cell? ⟨gC, 2, none⟩ = some (.string sb) ∧ w'.cell? ⟨gD, 0, none⟩ = some (.bool true) ∧ w'.cell? ⟨gD, 1, none⟩ = some (.int .i64 ia) ∧ w'.cell? ⟨gD, 2, none⟩ = some (.string sa)) ∧ HeldV w4 w') (exact HS.out _ (by assumption))
     (first
      | (go_at_call 15; ((with_reducible refine (H1.out _ (by go_split_ands; assumption)).mono ?_); rintro e wn ⟨rfl, hHz⟩))
      | (go_at_call 16; ((with_reducible refine (H2.out _ (by go_split_ands; assumption)).mono ?_); rintro e wn ⟨rfl, hHz⟩))
      | (go_at_call 15; ((with_reducible refine (H3.out _ (by go_split_ands; assumption)).mono ?_); rintro e wn ⟨rfl, hHz⟩))
      | (go_at_call 15; ((with_reducible refine (H4.out _ (by go_split_ands; assumption)).mono ?_); rintro e wn ⟨rfl, hHz⟩))
      | (go_at_call 15; ((with_reducible refine (H5.out _ (by go_split_ands; assumption)).mono ?_); rintro e wn ⟨rfl, hHz⟩))
      | (go_at_call 14; ((with_reducible refine (H6.out _ (by go_split_ands; assumption)).mono ?_); rintro e wn ⟨rfl, hHz⟩)))
    all_goals
      go_wp2_with fail
      go_ret
      exact ⟨rfl, two_below HB4.out hHz⟩
end Go.Proofs.YthdinhgadefgaaaDoor.K
namespace Go.Proofs.YthdinhgadefgaaaDoor.T
open Go.RowKit Go.Proofs.YthdinhgadefgaaaDoorW.PrintWords Go.Proofs.YthdinhgadefgaaaDoorW.PrintLast Go.Proofs.YthdinhgadefgaaaDoorW.PrintMore Go.Proofs.YthdinhgadefgaaaDoor.U Go.Proofs.YthdinhgadefgaaaDoor.K
def kVal : Kd ValD := Kd.iso (Kd.pair Kd.bool (Kd.pair (Kd.int .i64) Kd.string)) (fun x => (x.text, x.int, x.bytes))
def GVal (x : ValD) : Prop := (Lit.int .i64 x.int).wf = true ∧ x.bytes.size ≤ 9223372036854775807
theorem open_23 : Opens Tryd.prog 23 kVal GVal :=
  Opens.imp (Opens.iso (Opens.struct Tryd.underlying23 (by kernel_rfl) (OpensF.cons (Opens.bool Tryd.underlying4) rfl (by kernel_rfl) rfl (OpensF.cons (Opens.int Tryd.underlying2) rfl (by kernel_rfl) rfl (OpensF.one (Opens.string Tryd.underlying9) rfl (by kernel_rfl))))) _ (fun p => ⟨p.1, p.2.1, p.2.2⟩) (fun _ => rfl)) (fun x h => h.2)
end Go.Proofs.YthdinhgadefgaaaDoor.T
namespace Go.Proofs.YthdinhgadefgaaaDoor.K
open Go.RowKit Go.Proofs.YthdinhgadefgaaaDoorW.PrintWords Go.Proofs.YthdinhgadefgaaaDoorW.PrintLast Go.Proofs.YthdinhgadefgaaaDoorW.PrintMore Go.Proofs.YthdinhgadefgaaaDoor.U Go.Proofs.YthdinhgadefgaaaDoor.T Go.Proofs.YthdinhgadefgaaaDoor.V
theorem kVal_open {w : World} {x : ValD} {cs : List Value} (h : kVal.K w x cs) : cs = [.bool x.text, .int .i64 x.int, .string x.bytes] := by
  obtain ⟨_, _, rfl, rfl, ⟨_, _, rfl, rfl, rfl⟩⟩ := h
  rfl
theorem valueSames_walk (W : World) (hE : Env W) (x : ValD) (cs : List Value) (hk : kVal.K W x cs) (hg : GVal x) (y : ValD) (ds : List Value) (hk2 : kVal.K W y ds) (hg2 : GVal y) :
    Calls Tryd.prog 3 #[.agg cs.toArray, .agg ds.toArray] W fun e w' => e = .returned (.bool true) ∧ Below W.heap.size W w' := by
  rw [kVal_open hk, kVal_open hk2]
  obtain ⟨t, i, s⟩ := x
  obtain ⟨u, j, r⟩ := y
  cases t
  · exact valueSames_F W hE i s u j r
  · exact valueSames_T W hE i s u j r
end Go.Proofs.YthdinhgadefgaaaDoor.K
