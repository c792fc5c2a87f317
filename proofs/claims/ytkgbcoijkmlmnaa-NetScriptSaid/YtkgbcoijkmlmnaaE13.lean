/- What every program answers; the statement NetNone. WRITTEN BY wip/gen_awake16.py. -/
import Derived.Test.YtkgbcoijkmlmnaaE12
set_option linter.unusedVariables false
set_option linter.unusedSimpArgs false
set_option maxRecDepth 100000
namespace Go.Proofs.Ytkgbcoijkmlmnaa.K
open Go.RowKit Go.Proofs.YtkgbcoijkmlmnaaW.PrintWords Go.Proofs.YtkgbcoijkmlmnaaW.PrintLast Go.Proofs.YtkgbcoijkmlmnaaW.PrintMore Go.Proofs.Ytkgbcoijkmlmnaa.U Go.Proofs.Ytkgbcoijkmlmnaa.T

theorem let_C {w : World} {x : LetD} {A1 A2 : Option Addr} {c1 c2 : Nat} (hm : MsgC w x.m A1 A2 c1 c2) {g : Nat} {t : TypeId} {fr : Nat × Nat} (h : w.heap[g]? = some (.cells (rawL x (.slice A1 x.m.set.length c1) (.slice A2 x.m.prs.length c2)).toArray t fr)) : Kd.C kLet w (some ⟨g, 0, none⟩) 1 [x] := by
  refine ⟨rfl, by show 1 ≤ 9223372036854775807; omega, fun _ => ⟨_, rfl, fun j y hj => ?_⟩⟩
  have hj0 : j = 0 ∧ x = y := by
    cases j with
    | zero => simpa using hj
    | succ j => simp at hj
  obtain ⟨rfl, rfl⟩ := hj0
  refine ⟨_, rfl, kLet_mk hm, fun i u hu => ?_⟩
  rw [show 0 * kLet.sz + i = i from by rw [Nat.zero_mul, Nat.zero_add]]
  exact cells_of_blk h i u hu
theorem dbl_awake (w : World) (gN : Nat) (F : Nat → Prop) (h : NetR w gN F [nl (2, 0)] 0) : Calls Try.prog 18 #[.pointer (some ⟨gN, 0, none⟩), .int .i64 0] w fun e w' => e = .returned (.bool true) ∧ (∃ F', NetR w' gN F' [nl (2, 0), nl (2, 0)] 0 ∧ ∀ k, F' k → F k ∨ w.heap.size ≤ k) ∧ Ch w w' F :=
  netDouble_ok w gN F [nl (2, 0)] 0 h 0 (Nat.zero_lt_one) (by show 1 < 128; omega) (nl (2, 0)) rfl ⟨Nat.zero_le _, Nat.zero_le _⟩
theorem len_awake (w : World) (gN : Nat) (F : Nat → Prop) (h : NetR w gN F [nl (2, 0), nl (2, 0)] 0) : Calls Try.prog 21 #[.pointer (some ⟨gN, 0, none⟩)] w fun e w' => e = .returned (.int .i64 2) ∧ w' = w := netLen w gN F [nl (2, 0), nl (2, 0)] 0 h
set_option maxHeartbeats 6400000 in
theorem awake16 (w : World) : Calls Try.prog 11 #[] w fun e w' => e = .returned (.bool true) ∧ Below w.heap.size w w' := by
  have hu := Try.underlying36
  have hum := Try.underlying34
  go_enter Try.func11, Try.ntmps11
  go_wp2_with fail
  refine (netNew w).mono ?_
  rintro e w1 ⟨gN, F, rfl, hN, hF, hb⟩
  obtain ⟨gA, hgA⟩ : ∃ g, g = w1.heap.size := ⟨_, rfl⟩
  obtain ⟨w2, hw2⟩ : ∃ w2, w2 = (w1.alloc (.cells #[.int .i64 1, .int .i64 0, .int .i64 0, .int .i64 0, .int .i64 0, .int .i64 0, .int .i64 0, .int .i64 0, .int .i64 0, .int .i64 0, .slice none 0 0, .slice none 0 0] 36)).alloc (.cells #[.int .i64 2, .int .i64 0, .int .i64 0, .int .i64 0, .int .i64 0, .int .i64 0, .int .i64 0, .int .i64 0, .int .i64 0, .int .i64 0, .slice none 0 0, .slice none 0 0] 36) := ⟨_, rfl⟩
  have hbq := (Below.refl w1.heap.size w1).alloc (Nat.le_refl _) (.cells #[.int .i64 1, .int .i64 0, .int .i64 0, .int .i64 0, .int .i64 0, .int .i64 0, .int .i64 0, .int .i64 0, .int .i64 0, .int .i64 0, .slice none 0 0, .slice none 0 0] 36)
  have hb2 : Below w1.heap.size w1 w2 := by rw [hw2]; exact hbq.alloc hbq.size _
  have hA2 : w2.heap[gA]? = some (.cells ([.int .i64 1, .int .i64 0, .int .i64 0, .int .i64 0, .int .i64 0, .int .i64 0, .int .i64 0, .int .i64 0, .int .i64 0, .int .i64 0, .slice none 0 0, .slice none 0 0] : List Value).toArray 36 (0, 0)) := by rw [hw2, hgA]; exact alloc_keeps (alloc_at w1 _) _
  have hB2 : w2.heap[gA + 1]? = some (.cells ([.int .i64 2, .int .i64 0, .int .i64 0, .int .i64 0, .int .i64 0, .int .i64 0, .int .i64 0, .int .i64 0, .int .i64 0, .int .i64 0, .slice none 0 0, .slice none 0 0] : List Value).toArray 36 (0, 0)) := by
    have := alloc_at (w1.alloc (.cells #[.int .i64 1, .int .i64 0, .int .i64 0, .int .i64 0, .int .i64 0, .int .i64 0, .int .i64 0, .int .i64 0, .int .i64 0, .int .i64 0, .slice none 0 0, .slice none 0 0] 36)) (.cells ([.int .i64 2, .int .i64 0, .int .i64 0, .int .i64 0, .int .i64 0, .int .i64 0, .int .i64 0, .int .i64 0, .int .i64 0, .int .i64 0, .slice none 0 0, .slice none 0 0] : List Value).toArray 36)
    rw [World.size_alloc] at this
    rw [hw2, hgA]
    exact this
  obtain ⟨w3, hw3⟩ : ∃ w3, w3 = w2.alloc (.cells #[.int .i64 1, .int .i64 0, .int .i64 0, .int .i64 0, .int .i64 0, .int .i64 0, .int .i64 0, .int .i64 0, .int .i64 0, .int .i64 0, .slice none 0 0, .slice none 0 0, .int .i64 2, .int .i64 0, .int .i64 0, .int .i64 0, .int .i64 0, .int .i64 0, .int .i64 0, .int .i64 0, .int .i64 0, .int .i64 0, .slice none 0 0, .slice none 0 0] 36) := ⟨_, rfl⟩
  have hb3 : Below w2.heap.size w2 w3 := by rw [hw3]; exact (Below.refl _ _).alloc (Nat.le_refl _) _
  have hC3 : w3.heap[w2.heap.size]? = some (.cells ([.int .i64 1, .int .i64 0, .int .i64 0, .int .i64 0, .int .i64 0, .int .i64 0, .int .i64 0, .int .i64 0, .int .i64 0, .int .i64 0, .slice none 0 0, .slice none 0 0, .int .i64 2, .int .i64 0, .int .i64 0, .int .i64 0, .int .i64 0, .int .i64 0, .int .i64 0, .int .i64 0, .int .i64 0, .int .i64 0, .slice none 0 0, .slice none 0 0] : List Value).toArray 36 (0, 0)) := by rw [hw3]; exact alloc_at w2 _
  have hb13 := below_then hb2 hb2.size hb3
  have hFlt := hN.flt
  have HSEND := Aside0.mk (netSend w3 gN F [] 0 (hN.below hb13) (some ⟨w2.heap.size, 0, none⟩) 2 [nl (1, 0), nl (2, 0)] (fun w' hc => nl_C w' [(1, 0), (2, 0)] (hc.blk hC3 (fun e => by have := hFlt _ e; have := hb2.size; omega)) (by decide)) (by decide) (fun x hx => by
    simp only [List.mem_cons, List.not_mem_nil, or_false] at hx
    rcases hx with rfl | rfl <;> exact ⟨by decide, by decide⟩) (by omega))
  have hA3 := (hb3.block gA (blk_lt' hA2)).trans hA2
  have HW2 := Aside0.mk (And.intro hgA (And.intro hw2 hw3))
  have HA3 := Aside0.mk hA3
  have HB3 := Aside0.mk (below_then hb hb.size hb13)
  have HF := Aside0.mk hF
  have HGA : Aside0 (¬ F gA ∧ gA < w3.heap.size ∧ w.heap.size ≤ gA) := ⟨fun e => by have := hFlt _ e; omega, blk_lt' hA3, by rw [hgA]; exact hb.size⟩
  have a0 : w2.cell? ⟨gA, 0, none⟩ = some (.int .i64 1) := cell_of_blk hA2
  have a1 : w2.cell? ⟨gA, 1, none⟩ = some (.int .i64 0) := cell_of_blk hA2
  have a2 : w2.cell? ⟨gA, 2, none⟩ = some (.int .i64 0) := cell_of_blk hA2
  have a3 : w2.cell? ⟨gA, 3, none⟩ = some (.int .i64 0) := cell_of_blk hA2
  have a4 : w2.cell? ⟨gA, 4, none⟩ = some (.int .i64 0) := cell_of_blk hA2
  have a5 : w2.cell? ⟨gA, 5, none⟩ = some (.int .i64 0) := cell_of_blk hA2
  have a6 : w2.cell? ⟨gA, 6, none⟩ = some (.int .i64 0) := cell_of_blk hA2
  have a7 : w2.cell? ⟨gA, 7, none⟩ = some (.int .i64 0) := cell_of_blk hA2
  have a8 : w2.cell? ⟨gA, 8, none⟩ = some (.int .i64 0) := cell_of_blk hA2
  have a9 : w2.cell? ⟨gA, 9, none⟩ = some (.int .i64 0) := cell_of_blk hA2
  have a10 : w2.cell? ⟨gA, 10, none⟩ = some (.slice none 0 0) := cell_of_blk hA2
  have a11 : w2.cell? ⟨gA, 11, none⟩ = some (.slice none 0 0) := cell_of_blk hA2
  have b0 : w2.cell? ⟨gA + 1, 0, none⟩ = some (.int .i64 2) := cell_of_blk hB2
  have b1 : w2.cell? ⟨gA + 1, 1, none⟩ = some (.int .i64 0) := cell_of_blk hB2
  have b2 : w2.cell? ⟨gA + 1, 2, none⟩ = some (.int .i64 0) := cell_of_blk hB2
  have b3 : w2.cell? ⟨gA + 1, 3, none⟩ = some (.int .i64 0) := cell_of_blk hB2
  have b4 : w2.cell? ⟨gA + 1, 4, none⟩ = some (.int .i64 0) := cell_of_blk hB2
  have b5 : w2.cell? ⟨gA + 1, 5, none⟩ = some (.int .i64 0) := cell_of_blk hB2
  have b6 : w2.cell? ⟨gA + 1, 6, none⟩ = some (.int .i64 0) := cell_of_blk hB2
  have b7 : w2.cell? ⟨gA + 1, 7, none⟩ = some (.int .i64 0) := cell_of_blk hB2
  have b8 : w2.cell? ⟨gA + 1, 8, none⟩ = some (.int .i64 0) := cell_of_blk hB2
  have b9 : w2.cell? ⟨gA + 1, 9, none⟩ = some (.int .i64 0) := cell_of_blk hB2
  have b10 : w2.cell? ⟨gA + 1, 10, none⟩ = some (.slice none 0 0) := cell_of_blk hB2
  have b11 : w2.cell? ⟨gA + 1, 11, none⟩ = some (.slice none 0 0) := cell_of_blk hB2
  clear hN hF hb hgA hw2 hbq hb2 hA2 hB2 hw3 hb3 hC3 hb13 hFlt hA3
  go_upto_region 5 with (fail)
  rw [← HW2.out.2.1, ← HW2.out.1]
  go_wp2_with fail
  rw [← HW2.out.2.2]
  refine HSEND.out.mono ?_
  rintro e w4 ⟨rfl, ⟨F4, hN4, hF4⟩, hc4⟩
  have hN4' : NetR w4 gN F4 [nl (1, 0), nl (2, 0)] 0 := hN4
  rw [show lostN [] [nl (1, 0), nl (2, 0)] = 0 from rfl]
  have HTK : Aside0 (Calls Try.prog 15 #[.pointer (some ⟨gN, 0, none⟩), .int .i64 0] w4 fun e w' => ∃ A1 A2 c1 c2, e = .returned (.tuple #[.agg #[.int .i64 1, .int .i64 0, .int .i64 0, .int .i64 0, .int .i64 0, .int .i64 0, .int .i64 0, .int .i64 0, .int .i64 0, .int .i64 0, .slice A1 0 c1, .slice A2 0 c2], .bool true]) ∧ MsgC w' nilMsg A1 A2 c1 c2 ∧ (∃ F', NetR w' gN F' [nl (2, 0)] 0 ∧ ∀ k, F' k → F4 k ∨ w4.heap.size ≤ k) ∧ Ch w4 w' F4) := ⟨netTake_ok w4 gN F4 [nl (1, 0), nl (2, 0)] 0 hN4' 0 (by decide) 1 0 nilMsg rfl⟩
  have hB4 : Below w.heap.size w w4 := Below.ch HB3.out hc4 HB3.out.size HF.out
  have hA4 := hc4.blk HA3.out HGA.out.1
  have hG4 : ¬ F4 gA := fun e => by
    rcases hF4 gA e with h | h
    · exact HGA.out.1 h
    · have := HGA.out.2.1; omega
  have HF4 : Aside0 (∀ k, F4 k → w.heap.size ≤ k) := ⟨fun k hk => by
    rcases hF4 k hk with h | h
    · exact HF.out k h
    · have := HB3.out.size; omega⟩
  have HA4 := Aside0.mk (And.intro hA4 (And.intro hG4 hB4))
  clear hN4 hF4 hc4 hN4' hB4 hA4 hG4
  go_wp2_with fail
  refine HTK.out.mono ?_
  rintro e w5 ⟨A1, A2, c1, c2, rfl, hm5, ⟨F5, hN5, hF5⟩, hc5⟩
  have hA5 := hc5.blk HA4.out.1 HA4.out.2.1
  have hB5 : Below w.heap.size w w5 := Below.ch HA4.out.2.2 hc5 HA4.out.2.2.size HF4.out
  obtain ⟨w6, hw6⟩ : ∃ w6, w6 = w5.alloc (.cells #[.int .i64 1, .int .i64 0, .int .i64 0, .int .i64 0, .int .i64 0, .int .i64 0, .int .i64 0, .int .i64 0, .int .i64 0, .int .i64 0, .slice A1 0 c1, .slice A2 0 c2] 36) := ⟨_, rfl⟩
  have hb6 : Below w5.heap.size w5 w6 := by rw [hw6]; exact (Below.refl _ _).alloc (Nat.le_refl _) _
  have hD6 : w6.heap[w5.heap.size]? = some (.cells ([.int .i64 1, .int .i64 0, .int .i64 0, .int .i64 0, .int .i64 0, .int .i64 0, .int .i64 0, .int .i64 0, .int .i64 0, .int .i64 0, .slice A1 0 c1, .slice A2 0 c2] : List Value).toArray 36 (0, 0)) := by rw [hw6]; exact alloc_at w5 _
  obtain ⟨gD, hgD⟩ : ∃ g, g = w5.heap.size := ⟨_, rfl⟩
  rw [← hgD] at hD6
  have hA6 := (hb6.block gA (blk_lt' hA5)).trans hA5
  obtain ⟨w7, hw7⟩ : ∃ w7, w7 = w6.alloc (.cells #[.int .i64 1, .int .i64 0, .int .i64 0, .int .i64 0, .int .i64 0, .int .i64 0, .int .i64 0, .int .i64 0, .int .i64 0, .int .i64 0, .slice A1 0 c1, .slice A2 0 c2] 36) := ⟨_, rfl⟩
  have hb7 : Below w6.heap.size w6 w7 := by rw [hw7]; exact (Below.refl _ _).alloc (Nat.le_refl _) _
  have hE7 : w7.heap[w6.heap.size]? = some (.cells ([.int .i64 1, .int .i64 0, .int .i64 0, .int .i64 0, .int .i64 0, .int .i64 0, .int .i64 0, .int .i64 0, .int .i64 0, .int .i64 0, .slice A1 0 c1, .slice A2 0 c2] : List Value).toArray 36 (0, 0)) := by rw [hw7]; exact alloc_at w6 _
  have hA7 := (hb7.block gA (blk_lt' hA6)).trans hA6
  obtain ⟨w8, hw8⟩ : ∃ w8, w8 = w7.alloc (.cells #[.int .i64 1, .int .i64 0, .int .i64 0, .int .i64 0, .int .i64 0, .int .i64 0, .int .i64 0, .int .i64 0, .int .i64 0, .int .i64 0, .slice none 0 0, .slice none 0 0] 36) := ⟨_, rfl⟩
  have hb8 : Below w7.heap.size w7 w8 := by rw [hw8]; exact (Below.refl _ _).alloc (Nat.le_refl _) _
  have hF8 : w8.heap[w7.heap.size]? = some (.cells ([.int .i64 1, .int .i64 0, .int .i64 0, .int .i64 0, .int .i64 0, .int .i64 0, .int .i64 0, .int .i64 0, .int .i64 0, .int .i64 0, .slice none 0 0, .slice none 0 0] : List Value).toArray 36 (0, 0)) := by rw [hw8]; exact alloc_at w7 _
  have hsz7 : w7.heap.size = w6.heap.size + 1 := by rw [hw7]; exact World.size_alloc _ _
  rw [hsz7] at hF8
  have hE8 := (hb8.block w6.heap.size (blk_lt' hE7)).trans hE7
  have hb58 := below_then (below_then hb6 hb6.size hb7) (below_then hb6 hb6.size hb7).size hb8
  have HSAME : Aside0 (Calls Try.prog 17 #[.slice (some ⟨w6.heap.size, 0, none⟩) 1 1, .slice (some ⟨w6.heap.size + 1, 0, none⟩) 1 1] w8 fun e w' => e = .returned (.bool true) ∧ Below w8.heap.size w8 w') := ⟨sameLetters (some ⟨w6.heap.size, 0, none⟩) 1 [nl (1, 0)] (some ⟨w6.heap.size + 1, 0, none⟩) 1 [nl (1, 0)] w8 (let_C (x := nl (1, 0)) (hm5.below hb58) hE8) (nl_C w8 [(1, 0)] hF8 (by decide)) (by decide) true (by simp)⟩
  have HN8 := Aside0.mk (hN5.below hb58)
  have HB8 := Aside0.mk (below_then hB5 hB5.size hb58)
  have HF5 : Aside0 (∀ k, F5 k → w.heap.size ≤ k) := ⟨fun k hk => by
    rcases hF5 k hk with h | h
    · exact HF4.out k h
    · have := HA4.out.2.2.size; omega⟩
  have HWS := Aside0.mk (And.intro hw6 (And.intro hgD (And.intro hw7 hw8)))
  have d0 : w6.cell? ⟨gD, 0, none⟩ = some (.int .i64 1) := cell_of_blk hD6
  have d1 : w6.cell? ⟨gD, 1, none⟩ = some (.int .i64 0) := cell_of_blk hD6
  have d2 : w6.cell? ⟨gD, 2, none⟩ = some (.int .i64 0) := cell_of_blk hD6
  have d3 : w6.cell? ⟨gD, 3, none⟩ = some (.int .i64 0) := cell_of_blk hD6
  have d4 : w6.cell? ⟨gD, 4, none⟩ = some (.int .i64 0) := cell_of_blk hD6
  have d5 : w6.cell? ⟨gD, 5, none⟩ = some (.int .i64 0) := cell_of_blk hD6
  have d6 : w6.cell? ⟨gD, 6, none⟩ = some (.int .i64 0) := cell_of_blk hD6
  have d7 : w6.cell? ⟨gD, 7, none⟩ = some (.int .i64 0) := cell_of_blk hD6
  have d8 : w6.cell? ⟨gD, 8, none⟩ = some (.int .i64 0) := cell_of_blk hD6
  have d9 : w6.cell? ⟨gD, 9, none⟩ = some (.int .i64 0) := cell_of_blk hD6
  have d10 : w6.cell? ⟨gD, 10, none⟩ = some (.slice A1 0 c1) := cell_of_blk hD6
  have d11 : w6.cell? ⟨gD, 11, none⟩ = some (.slice A2 0 c2) := cell_of_blk hD6
  have e0 : (w6.alloc (.cells #[.int .i64 1, .int .i64 0, .int .i64 0, .int .i64 0, .int .i64 0, .int .i64 0, .int .i64 0, .int .i64 0, .int .i64 0, .int .i64 0, .slice A1 0 c1, .slice A2 0 c2] 36)).cell? ⟨gA, 0, none⟩ = some (.int .i64 1) := by rw [← hw7]; exact cell_of_blk hA7
  have e1 : (w6.alloc (.cells #[.int .i64 1, .int .i64 0, .int .i64 0, .int .i64 0, .int .i64 0, .int .i64 0, .int .i64 0, .int .i64 0, .int .i64 0, .int .i64 0, .slice A1 0 c1, .slice A2 0 c2] 36)).cell? ⟨gA, 1, none⟩ = some (.int .i64 0) := by rw [← hw7]; exact cell_of_blk hA7
  have e2 : (w6.alloc (.cells #[.int .i64 1, .int .i64 0, .int .i64 0, .int .i64 0, .int .i64 0, .int .i64 0, .int .i64 0, .int .i64 0, .int .i64 0, .int .i64 0, .slice A1 0 c1, .slice A2 0 c2] 36)).cell? ⟨gA, 2, none⟩ = some (.int .i64 0) := by rw [← hw7]; exact cell_of_blk hA7
  have e3 : (w6.alloc (.cells #[.int .i64 1, .int .i64 0, .int .i64 0, .int .i64 0, .int .i64 0, .int .i64 0, .int .i64 0, .int .i64 0, .int .i64 0, .int .i64 0, .slice A1 0 c1, .slice A2 0 c2] 36)).cell? ⟨gA, 3, none⟩ = some (.int .i64 0) := by rw [← hw7]; exact cell_of_blk hA7
  have e4 : (w6.alloc (.cells #[.int .i64 1, .int .i64 0, .int .i64 0, .int .i64 0, .int .i64 0, .int .i64 0, .int .i64 0, .int .i64 0, .int .i64 0, .int .i64 0, .slice A1 0 c1, .slice A2 0 c2] 36)).cell? ⟨gA, 4, none⟩ = some (.int .i64 0) := by rw [← hw7]; exact cell_of_blk hA7
  have e5 : (w6.alloc (.cells #[.int .i64 1, .int .i64 0, .int .i64 0, .int .i64 0, .int .i64 0, .int .i64 0, .int .i64 0, .int .i64 0, .int .i64 0, .int .i64 0, .slice A1 0 c1, .slice A2 0 c2] 36)).cell? ⟨gA, 5, none⟩ = some (.int .i64 0) := by rw [← hw7]; exact cell_of_blk hA7
  have e6 : (w6.alloc (.cells #[.int .i64 1, .int .i64 0, .int .i64 0, .int .i64 0, .int .i64 0, .int .i64 0, .int .i64 0, .int .i64 0, .int .i64 0, .int .i64 0, .slice A1 0 c1, .slice A2 0 c2] 36)).cell? ⟨gA, 6, none⟩ = some (.int .i64 0) := by rw [← hw7]; exact cell_of_blk hA7
  have e7 : (w6.alloc (.cells #[.int .i64 1, .int .i64 0, .int .i64 0, .int .i64 0, .int .i64 0, .int .i64 0, .int .i64 0, .int .i64 0, .int .i64 0, .int .i64 0, .slice A1 0 c1, .slice A2 0 c2] 36)).cell? ⟨gA, 7, none⟩ = some (.int .i64 0) := by rw [← hw7]; exact cell_of_blk hA7
  have e8 : (w6.alloc (.cells #[.int .i64 1, .int .i64 0, .int .i64 0, .int .i64 0, .int .i64 0, .int .i64 0, .int .i64 0, .int .i64 0, .int .i64 0, .int .i64 0, .slice A1 0 c1, .slice A2 0 c2] 36)).cell? ⟨gA, 8, none⟩ = some (.int .i64 0) := by rw [← hw7]; exact cell_of_blk hA7
  have e9 : (w6.alloc (.cells #[.int .i64 1, .int .i64 0, .int .i64 0, .int .i64 0, .int .i64 0, .int .i64 0, .int .i64 0, .int .i64 0, .int .i64 0, .int .i64 0, .slice A1 0 c1, .slice A2 0 c2] 36)).cell? ⟨gA, 9, none⟩ = some (.int .i64 0) := by rw [← hw7]; exact cell_of_blk hA7
  have e10 : (w6.alloc (.cells #[.int .i64 1, .int .i64 0, .int .i64 0, .int .i64 0, .int .i64 0, .int .i64 0, .int .i64 0, .int .i64 0, .int .i64 0, .int .i64 0, .slice A1 0 c1, .slice A2 0 c2] 36)).cell? ⟨gA, 10, none⟩ = some (.slice none 0 0) := by rw [← hw7]; exact cell_of_blk hA7
  have e11 : (w6.alloc (.cells #[.int .i64 1, .int .i64 0, .int .i64 0, .int .i64 0, .int .i64 0, .int .i64 0, .int .i64 0, .int .i64 0, .int .i64 0, .int .i64 0, .slice A1 0 c1, .slice A2 0 c2] 36)).cell? ⟨gA, 11, none⟩ = some (.slice none 0 0) := by rw [← hw7]; exact cell_of_blk hA7
  clear hm5 hN5 hF5 hc5 hA5 hB5 hw6 hb6 hD6 hgD hA6 hw7 hb7 hE7 hA7 hw8 hb8 hF8 hE8 hb58
  go_upto_region 7 with (fail)
  rw [← HWS.out.1, ← HWS.out.2.1]
  go_wp2_with fail
  rw [← HWS.out.2.2.1, ← HWS.out.2.2.2]
  refine HSAME.out.mono ?_
  rintro e w9 ⟨rfl, hb9⟩
  have HDB := Aside0.mk (dbl_awake w9 gN F5 (HN8.out.below hb9))
  have HB9 := Aside0.mk (below_then HB8.out HB8.out.size hb9)
  clear hb9 d0 e0 d1 e1 d2 e2 d3 e3 d4 e4 d5 e5 d6 e6 d7 e7 d8 e8 d9 e9 d10 e10 d11 e11
  go_wp2_with fail
  refine HDB.out.mono ?_
  rintro e wa ⟨rfl, ⟨Fa, hNa, hFa⟩, hca⟩
  have HLEN := Aside0.mk (len_awake wa gN Fa hNa)
  have HBa := Aside0.mk (Below.ch HB9.out hca HB9.out.size HF5.out)
  clear hNa hFa hca
  go_wp2_with fail
  refine HLEN.out.mono ?_
  rintro e wb ⟨rfl, rfl⟩
  go_wp2_with fail
  go_ret
  exact ⟨rfl, HBa.out⟩
end Go.Proofs.Ytkgbcoijkmlmnaa.K
