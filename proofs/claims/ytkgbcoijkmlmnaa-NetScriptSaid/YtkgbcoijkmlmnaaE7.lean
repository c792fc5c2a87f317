/- A net: made, how many, is there a place; of none. -/
import Derived.Test.YtkgbcoijkmlmnaaE4
set_option linter.unusedVariables false
set_option linter.unusedSimpArgs false
set_option maxRecDepth 100000
namespace Go.Proofs.Ytkgbcoijkmlmnaa.K
open Go.RowKit Go.Proofs.YtkgbcoijkmlmnaaW.PrintWords Go.Proofs.YtkgbcoijkmlmnaaW.PrintLast Go.Proofs.YtkgbcoijkmlmnaaW.PrintMore Go.Proofs.Ytkgbcoijkmlmnaa.U Go.Proofs.Ytkgbcoijkmlmnaa.T

theorem netNew (w : World) : Calls Try.prog 12 #[] w fun e w' => ∃ gN F, e = .returned (.pointer (some ⟨gN, 0, none⟩)) ∧ NetR w' gN F [] 0 ∧ (∀ k, F k → w.heap.size ≤ k) ∧ Below w.heap.size w w' := by
  go_enter Try.func12, Try.ntmps12
  go_wp2_with fail
  refine (tNew w).mono ?_
  rintro e w1 ⟨rfl, hT, hb1⟩
  have HT := Aside0.mk hT
  have HB1 := Aside0.mk hb1
  clear hT hb1
  go_wp2_with fail
  go_ret
  have hb2 := (Below.refl w1.heap.size w1).alloc (Nat.le_refl _) (.cells #[.slice none 0 0, .pointer (some ⟨w.heap.size, 0, none⟩)] 72)
  have hlt := HT.out.lt
  refine ⟨w1.heap.size, fun k => k = w1.heap.size ∨ k = w.heap.size, rfl, ⟨w.heap.size, .slice none 0 0, fun _ => False, ⟨alloc_at w1 _, Kd.R_nil _ _ _ _ _, ⟨Nat.zero_le _, (HT.out.below hb2).blk, HT.out.len, HT.out.rng⟩, fun k hk => hk.elim, .inl rfl, .inr rfl, by omega, ?_, by simp⟩⟩, ?_, below_then HB1.out HB1.out.size hb2⟩
  · intro k hk
    rw [World.size_alloc]
    rcases hk with rfl | rfl <;> omega
  · intro k hk
    have := HB1.out.size
    rcases hk with rfl | rfl <;> omega
theorem netLen (w : World) (gN : Nat) (F : Nat → Prop) (ls : List LetD) (lost : Int) (h : NetR w gN F ls lost) : Calls Try.prog 21 #[.pointer (some ⟨gN, 0, none⟩)] w fun e w' => e = .returned (.int .i64 ls.length) ∧ w' = w := by
  obtain ⟨gT, rv, ok, h⟩ := h
  obtain ⟨A, c, rfl, _, _⟩ := Kd.R_reads h.row
  have hc0 : w.cell? ⟨gN, 0, none⟩ = some (.slice A ls.length c) := cell_of_blk h.blk
  clear h
  go_enter Try.func21, Try.ntmps21
  go_wp2_with fail
  go_ret
  exact ⟨rfl, rfl⟩
theorem netLen_nil (w : World) : Calls Try.prog 21 #[.pointer none] w fun e w' => e = .returned (.int .i64 0) ∧ w' = w := by
  go_enter Try.func21, Try.ntmps21
  go_wp2_with fail
  go_ret
  exact ⟨rfl, rfl⟩
theorem netIs (w : World) (gN : Nat) (F : Nat → Prop) (ls : List LetD) (lost : Int) (h : NetR w gN F ls lost) (i : Int) (r : Bool) (hr : r = true ↔ 0 ≤ i ∧ i < ls.length) : Calls Try.prog 44 #[.pointer (some ⟨gN, 0, none⟩), .int .i64 i] w fun e w' => e = .returned (.bool r) ∧ w' = w := by
  obtain ⟨gT, rv, ok, h⟩ := h
  obtain ⟨A, c, rfl, _, _⟩ := Kd.R_reads h.row
  have hc0 : w.cell? ⟨gN, 0, none⟩ = some (.slice A ls.length c) := cell_of_blk h.blk
  clear h
  by_cases h0 : 0 ≤ i
  · by_cases h1 : i < ls.length
    · obtain rfl : r = true := hr.2 ⟨h0, h1⟩
      clear hr
      go_enter Try.func44, Try.ntmps44
      go_wp2_with fail
      go_ret
      exact ⟨rfl, rfl⟩
    · obtain rfl : r = false := by
        cases r with
        | false => rfl
        | true => exact absurd (hr.1 rfl).2 h1
      clear hr
      go_enter Try.func44, Try.ntmps44
      go_wp2_with fail
      go_ret
      exact ⟨rfl, rfl⟩
  · obtain rfl : r = false := by
      cases r with
      | false => rfl
      | true => exact absurd (hr.1 rfl).1 h0
    clear hr
    go_enter Try.func44, Try.ntmps44
    go_wp2_with fail
    go_ret
    exact ⟨rfl, rfl⟩
theorem netIs_nil (w : World) (i : Int) : Calls Try.prog 44 #[.pointer none, .int .i64 i] w fun e w' => e = .returned (.bool false) ∧ w' = w := by
  go_enter Try.func44, Try.ntmps44
  go_wp2_with fail
  go_ret
  exact ⟨rfl, rfl⟩
theorem netDouble_nil (w : World) (i : Int) : Calls Try.prog 18 #[.pointer none, .int .i64 i] w fun e w' => e = .returned (.bool false) ∧ w' = w := by
  go_enter Try.func18, Try.ntmps18
  go_wp2_with fail
  refine (netIs_nil w i).mono ?_
  rintro e w1 ⟨rfl, rfl⟩
  go_wp2_with fail
  go_ret
  exact ⟨rfl, rfl⟩
theorem netSend_nil (w : World) (v : Value) : Calls Try.prog 13 #[.pointer none, v] w fun e w' => e = .returned (.int .i64 0) ∧ w' = w := by
  go_enter Try.func13, Try.ntmps13
  go_wp2_with fail
  go_ret
  exact ⟨rfl, rfl⟩
theorem netList_nil (w : World) : Calls Try.prog 20 #[.pointer none] w fun e w' => e = .returned (.slice none 0 0) ∧ w' = w := by
  go_enter Try.func20, Try.ntmps20
  go_wp2_with fail
  go_ret
  exact ⟨rfl, rfl⟩
/-- The letter that is none. -/
def zeroV : Value := letV zeroLet (.slice none 0 0) (.slice none 0 0)
theorem take_no (p : Value) (w : World) (i : Int) (h : ∀ w', Calls Try.prog 44 #[p, .int .i64 i] w' fun e w'' => e = .returned (.bool false) ∧ w'' = w') : Calls Try.prog 15 #[p, .int .i64 i] w fun e w' => e = .returned (.tuple #[zeroV, .bool false]) ∧ Below w.heap.size w w' := by
  obtain ⟨g, hg⟩ : ∃ g, g = w.heap.size := ⟨_, rfl⟩
  obtain ⟨wA, hwA⟩ : ∃ w', w' = w.alloc (.cells #[.int .i64 0, .int .i64 0, .int .i64 0, .int .i64 0, .int .i64 0, .int .i64 0, .int .i64 0, .int .i64 0, .int .i64 0, .int .i64 0, .slice none 0 0, .slice none 0 0] 36) := ⟨_, rfl⟩
  have hbA : Below w.heap.size w wA := by rw [hwA]; exact (Below.refl _ _).alloc (Nat.le_refl _) _
  have hgA : wA.heap[g]? = some (.cells ([.int .i64 0, .int .i64 0, .int .i64 0, .int .i64 0, .int .i64 0, .int .i64 0, .int .i64 0, .int .i64 0, .int .i64 0, .int .i64 0, .slice none 0 0, .slice none 0 0] : List Value).toArray 36 (0, 0)) := by rw [hwA, hg]; exact alloc_at w _
  have H := Aside0.mk (h wA)
  have HWA := Aside0.mk hwA
  have HG := Aside0.mk hg
  have HGA := Aside0.mk hgA
  have HBA := Aside0.mk hbA
  clear h hwA hg hbA hgA
  go_enter Try.func15, Try.ntmps15
  go_upto_region 1 with (fail)
  rw [← HWA.out, ← HG.out]
  go_wp2_with fail
  refine H.out.mono ?_
  rintro e w1 ⟨rfl, rfl⟩
  have hgA := HGA.out
  have f0 : w1.cell? ⟨g, 0, none⟩ = some (.int .i64 0) := cell_of_blk hgA
  have z0 : w1.frozen? ⟨g, 0, none⟩ = false := frozen_of_blk hgA
  have f1 : w1.cell? ⟨g, 1, none⟩ = some (.int .i64 0) := cell_of_blk hgA
  have z1 : w1.frozen? ⟨g, 1, none⟩ = false := frozen_of_blk hgA
  have f2 : w1.cell? ⟨g, 2, none⟩ = some (.int .i64 0) := cell_of_blk hgA
  have z2 : w1.frozen? ⟨g, 2, none⟩ = false := frozen_of_blk hgA
  have f3 : w1.cell? ⟨g, 3, none⟩ = some (.int .i64 0) := cell_of_blk hgA
  have z3 : w1.frozen? ⟨g, 3, none⟩ = false := frozen_of_blk hgA
  have f4 : w1.cell? ⟨g, 4, none⟩ = some (.int .i64 0) := cell_of_blk hgA
  have z4 : w1.frozen? ⟨g, 4, none⟩ = false := frozen_of_blk hgA
  have f5 : w1.cell? ⟨g, 5, none⟩ = some (.int .i64 0) := cell_of_blk hgA
  have z5 : w1.frozen? ⟨g, 5, none⟩ = false := frozen_of_blk hgA
  have f6 : w1.cell? ⟨g, 6, none⟩ = some (.int .i64 0) := cell_of_blk hgA
  have z6 : w1.frozen? ⟨g, 6, none⟩ = false := frozen_of_blk hgA
  have f7 : w1.cell? ⟨g, 7, none⟩ = some (.int .i64 0) := cell_of_blk hgA
  have z7 : w1.frozen? ⟨g, 7, none⟩ = false := frozen_of_blk hgA
  have f8 : w1.cell? ⟨g, 8, none⟩ = some (.int .i64 0) := cell_of_blk hgA
  have z8 : w1.frozen? ⟨g, 8, none⟩ = false := frozen_of_blk hgA
  have f9 : w1.cell? ⟨g, 9, none⟩ = some (.int .i64 0) := cell_of_blk hgA
  have z9 : w1.frozen? ⟨g, 9, none⟩ = false := frozen_of_blk hgA
  have f10 : w1.cell? ⟨g, 10, none⟩ = some (.slice none 0 0) := cell_of_blk hgA
  have z10 : w1.frozen? ⟨g, 10, none⟩ = false := frozen_of_blk hgA
  have f11 : w1.cell? ⟨g, 11, none⟩ = some (.slice none 0 0) := cell_of_blk hgA
  have z11 : w1.frozen? ⟨g, 11, none⟩ = false := frozen_of_blk hgA
  clear hgA
  have hu := Try.underlying36
  have hum := Try.underlying34
  go_wp2_with fail
  obtain ⟨w9, hw9⟩ : ∃ w9, w9 = wrote12 w1 g (.int .i64 0) (.int .i64 0) (.int .i64 0) (.int .i64 0) (.int .i64 0) (.int .i64 0) (.int .i64 0) (.int .i64 0) (.int .i64 0) (.int .i64 0) (.slice none 0 0) (.slice none 0 0) := ⟨_, rfl⟩
  have hq9 := set12 HGA.out (.int .i64 0) (.int .i64 0) (.int .i64 0) (.int .i64 0) (.int .i64 0) (.int .i64 0) (.int .i64 0) (.int .i64 0) (.int .i64 0) (.int .i64 0) (.slice none 0 0) (.slice none 0 0)
  have hc9 := set12_ch w1 g (.int .i64 0) (.int .i64 0) (.int .i64 0) (.int .i64 0) (.int .i64 0) (.int .i64 0) (.int .i64 0) (.int .i64 0) (.int .i64 0) (.int .i64 0) (.slice none 0 0) (.slice none 0 0)
  rw [← hw9] at hq9 hc9
  unfold wrote12 at hw9
  rw [← hw9]
  have y0 : w9.cell? ⟨g, 0, none⟩ = some (.int .i64 0) := cell_of_blk hq9
  have y1 : w9.cell? ⟨g, 1, none⟩ = some (.int .i64 0) := cell_of_blk hq9
  have y2 : w9.cell? ⟨g, 2, none⟩ = some (.int .i64 0) := cell_of_blk hq9
  have y3 : w9.cell? ⟨g, 3, none⟩ = some (.int .i64 0) := cell_of_blk hq9
  have y4 : w9.cell? ⟨g, 4, none⟩ = some (.int .i64 0) := cell_of_blk hq9
  have y5 : w9.cell? ⟨g, 5, none⟩ = some (.int .i64 0) := cell_of_blk hq9
  have y6 : w9.cell? ⟨g, 6, none⟩ = some (.int .i64 0) := cell_of_blk hq9
  have y7 : w9.cell? ⟨g, 7, none⟩ = some (.int .i64 0) := cell_of_blk hq9
  have y8 : w9.cell? ⟨g, 8, none⟩ = some (.int .i64 0) := cell_of_blk hq9
  have y9 : w9.cell? ⟨g, 9, none⟩ = some (.int .i64 0) := cell_of_blk hq9
  have y10 : w9.cell? ⟨g, 10, none⟩ = some (.slice none 0 0) := cell_of_blk hq9
  have y11 : w9.cell? ⟨g, 11, none⟩ = some (.slice none 0 0) := cell_of_blk hq9
  clear hw9 hq9 f0 z0 f1 z1 f2 z2 f3 z3 f4 z4 f5 z5 f6 z6 f7 z7 f8 z8 f9 z9 f10 z10 f11 z11
  have h3 : Below w.heap.size w w9 := Below.ch HBA.out hc9 HBA.out.size (fun k hk => by rw [hk, HG.out]; exact Nat.le_refl _)
  have HF := Aside0.mk h3
  clear h3 hc9
  refine bodyPost_ret (v := .tuple #[zeroV, .bool false]) ?_ rfl ⟨rfl, HF.out⟩
  simp [results, Try.results15, go_sem, *]
  rfl
end Go.Proofs.Ytkgbcoijkmlmnaa.K
