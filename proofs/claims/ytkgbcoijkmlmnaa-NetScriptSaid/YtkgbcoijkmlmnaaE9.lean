/- A letter is taken. WRITTEN BY wip/gen_take.py. -/
import Derived.Test.YtkgbcoijkmlmnaaE8
import Derived.Test.YtkgbcoijkmlmnaaE6
set_option linter.unusedVariables false
set_option linter.unusedSimpArgs false
set_option maxRecDepth 100000
namespace Go.Proofs.Ytkgbcoijkmlmnaa.K
open Go.RowKit Go.Proofs.YtkgbcoijkmlmnaaW.PrintWords Go.Proofs.YtkgbcoijkmlmnaaW.PrintLast Go.Proofs.YtkgbcoijkmlmnaaW.PrintMore Go.Proofs.Ytkgbcoijkmlmnaa.U Go.Proofs.Ytkgbcoijkmlmnaa.T

theorem NetP.elem {w : World} {gN gT : Nat} {rv : Value} {ok F : Nat → Prop} {ls : List LetD} {lost : Int} (h : NetP w gN gT rv ok F ls lost) (i : Nat) (hi : i < ls.length) :
    ∃ g c A1 c1 A2 c2, rv = .slice (some ⟨g, 0, none⟩) ls.length c ∧ ok g ∧ LetAt w ⟨g, i * 12, none⟩ (ls[i]).fr (ls[i]).dst (ls[i]).m (.slice A1 (ls[i]).m.set.length c1) (.slice A2 (ls[i]).m.prs.length c2) ∧
      Kd.R kI 3 w 0 (fun k => ok k ∧ k ≠ g) (.slice A1 (ls[i]).m.set.length c1) (ls[i]).m.set ∧ Kd.R kPair 114 w 0 (fun k => ok k ∧ k ≠ g) (.slice A2 (ls[i]).m.prs.length c2) (ls[i]).m.prs := by
  obtain ⟨g, c, rfl, _, hlt, _⟩ := Kd.R_form h.row (by omega)
  obtain ⟨cs, hl, hM, hcell, _⟩ := Kd.R_elem h.row zeroLet (i : Int) (by omega) (by omega)
  have e : ls.getD (i : Int).toNat zeroLet = ls[i] := by rw [Int.toNat_natCast]; simp [List.getD_eq_getElem?_getD, hi]
  rw [e] at hM
  obtain ⟨sv, pv, rfl, h1, h2⟩ := kLet_openM hM
  obtain ⟨A1, c1, rfl, _, _⟩ := Kd.R_reads h1
  obtain ⟨A2, c2, rfl, _, _⟩ := Kd.R_reads h2
  rw [Int.toNat_natCast] at hcell
  refine ⟨g, c, A1, c1, A2, c2, rfl, h.row.1 g rfl, ⟨hcell 0 _ rfl, hcell 1 _ rfl, hcell 2 _ rfl, hcell 3 _ rfl, hcell 4 _ rfl, hcell 5 _ rfl, hcell 6 _ rfl, hcell 7 _ rfl, hcell 8 _ rfl, hcell 9 _ rfl, hcell 10 _ rfl, hcell 11 _ rfl⟩, h1, h2⟩
theorem MsgC.of {w : World} {m : MsgD} {A1 A2 : Option Addr} {c1 c2 : Nat} {b : Nat} {ok : Nat → Prop} (h1 : Kd.R kI 3 w b ok (.slice A1 m.set.length c1) m.set) (h2 : Kd.R kPair 114 w b ok (.slice A2 m.prs.length c2) m.prs) : MsgC w m A1 A2 c1 c2 :=
  ⟨(Kd.R_reads' h1).2.2, (Kd.R_reads' h2).2.2, (Kd.R_reads' h1).2.1, (Kd.R_reads' h2).2.1⟩
theorem Ch.trans' {w w1 w2 : World} {S T : Nat → Prop} (h : Ch w w1 S) (k : Ch w1 w2 T) (hT : ∀ k, k < w.heap.size → T k → S k) : Ch w w2 S := h.trans k hT
set_option maxHeartbeats 6400000 in
theorem netTake_ok (w : World) (gN : Nat) (F : Nat → Prop) (ls : List LetD) (lost : Int) (h : NetR w gN F ls lost) (i : Nat) (hi : i < ls.length) (fr dst : Int) (m : MsgD) (hx : ls[i] = ⟨fr, dst, m⟩) :
    Calls Try.prog 15 #[.pointer (some ⟨gN, 0, none⟩), .int .i64 (i : Int)] w fun e w' => ∃ A1 A2 c1 c2, e = .returned (.tuple #[letV ⟨fr, dst, m⟩ (.slice A1 m.set.length c1) (.slice A2 m.prs.length c2), .bool true]) ∧ MsgC w' m A1 A2 c1 c2 ∧ (∃ F', NetR w' gN F' (ls.eraseIdx i) lost ∧ ∀ k, F' k → F k ∨ w.heap.size ≤ k) ∧ Ch w w' F := by
  obtain ⟨gT, rv, ok, h⟩ := h
  obtain ⟨g, c, A1, c1, A2, c2, rfl, hokg, hat, hs1, hs2⟩ := h.elem i hi
  rw [hx] at hat hs1 hs2
  have hat : LetAt w ⟨g, i * 12, none⟩ fr dst m (.slice A1 m.set.length c1) (.slice A2 m.prs.length c2) := hat
  obtain ⟨ls1, hls1⟩ : ∃ n, n = m.set.length := ⟨_, rfl⟩
  obtain ⟨lp1, hlp1⟩ : ∃ n, n = m.prs.length := ⟨_, rfl⟩
  have hs1 : Kd.R kI 3 w 0 (fun k => ok k ∧ k ≠ g) (.slice A1 ls1 c1) m.set := by rw [hls1]; exact hs1
  have hs2 : Kd.R kPair 114 w 0 (fun k => ok k ∧ k ≠ g) (.slice A2 lp1 c2) m.prs := by rw [hlp1]; exact hs2
  rw [← hls1, ← hlp1] at hat ⊢
  -- the worlds: the answer's own place, the letter's own variable
  obtain ⟨gR, hgR⟩ : ∃ g, g = w.heap.size := ⟨_, rfl⟩
  obtain ⟨wA, hwA⟩ : ∃ w', w' = w.alloc (.cells #[.int .i64 0, .int .i64 0, .int .i64 0, .int .i64 0, .int .i64 0, .int .i64 0, .int .i64 0, .int .i64 0, .int .i64 0, .int .i64 0, .slice none 0 0, .slice none 0 0] 36) := ⟨_, rfl⟩
  have hbA : Below w.heap.size w wA := by rw [hwA]; exact (Below.refl _ _).alloc (Nat.le_refl _) _
  have hgA : wA.heap[gR]? = some (.cells ([.int .i64 0, .int .i64 0, .int .i64 0, .int .i64 0, .int .i64 0, .int .i64 0, .int .i64 0, .int .i64 0, .int .i64 0, .int .i64 0, .slice none 0 0, .slice none 0 0] : List Value).toArray 36 (0, 0)) := by rw [hwA, hgR]; exact alloc_at w _
  have hsA : wA.heap.size = w.heap.size + 1 := by rw [hwA]; exact World.size_alloc _ _
  obtain ⟨wB, hwB⟩ : ∃ w', w' = wA.alloc (.cells #[.int .i64 fr, .int .i64 dst, .int .i64 m.k, .int .i64 m.s, .int .i64 m.a, .int .i64 m.p, .int .i64 m.q, .int .i64 m.n, .int .i64 m.e, .int .i64 m.r, .slice A1 ls1 c1, .slice A2 lp1 c2] 36) := ⟨_, rfl⟩
  have hbB : Below wA.heap.size wA wB := by rw [hwB]; exact (Below.refl _ _).alloc (Nat.le_refl _) _
  have h6 : wB.heap[gR + 1]? = some (.cells ([.int .i64 fr, .int .i64 dst, .int .i64 m.k, .int .i64 m.s, .int .i64 m.a, .int .i64 m.p, .int .i64 m.q, .int .i64 m.n, .int .i64 m.e, .int .i64 m.r, .slice A1 ls1 c1, .slice A2 lp1 c2] : List Value).toArray 36 (0, 0)) := by rw [hwB, hgR, ← hsA]; exact alloc_at wA _
  have hsB : wB.heap.size = w.heap.size + 2 := by rw [hwB, World.size_alloc, hsA]
  have hbAB : Below w.heap.size w wB := below_then hbA hbA.size hbB
  have hPA := h.below hbA
  have hPB := h.below hbAB
  have HIS := Aside0.mk (netIs wA gN F ls lost ⟨gT, _, ok, hPA⟩ (i : Int) true (by simp; omega))
  have hiN : ls.length ≤ 128 := h.len
  obtain ⟨n, hn⟩ : ∃ n, n = ls.length := ⟨_, rfl⟩
  have hrow : Kd.R kLet 36 wB 0 ok (.slice (some ⟨g, 0, none⟩) n c) ls := by rw [hn]; exact hPB.row
  have HDEL := Aside0.mk (delLet wB g n c i ok ls hrow (by omega))
  have hcA : wA.cell? ⟨gN, 0, none⟩ = some (.slice (some ⟨g, 0, none⟩) n c) := by rw [hn]; exact cell_of_blk hPA.blk
  have hcB : wB.cell? ⟨gN, 0, none⟩ = some (.slice (some ⟨g, 0, none⟩) n c) := by rw [hn]; exact cell_of_blk hPB.blk
  have hgFlt := h.flt g (h.okF g hokg).1
  have hNlt := h.flt gN h.fN
  have HATA := Aside0.mk (hat.below hbA)
  have hP : (⟨g, 0, none⟩ : Addr).add (i * 12) = ⟨g, i * 12, none⟩ := by rw [add_plain]
  have hin : (i : Int) < n := by omega
  have hi0 : (0 : Int) ≤ (i : Int) := by omega
  have hi128 : (i : Int) < 128 := by omega
  have HEND : Aside0 (∀ w2, Ch wB w2 (fun k => k = g) → Kd.R kLet 36 w2 0 ok (.slice (some ⟨g, 0, none⟩) (n - 1) c) (ls.eraseIdx i) →
      (w2.cell? ⟨gN, 0, none⟩ = some (.slice (some ⟨g, 0, none⟩) n c) ∧ w2.frozen? ⟨gN, 0, none⟩ = false) ∧ ∀ w3, w3 = w2.setCell ⟨gN, 0, none⟩ (.slice (some ⟨g, 0, none⟩) (n - 1) c) → w3.heap[gR]? = some (.cells ([.int .i64 0, .int .i64 0, .int .i64 0, .int .i64 0, .int .i64 0, .int .i64 0, .int .i64 0, .int .i64 0, .int .i64 0, .int .i64 0, .slice none 0 0, .slice none 0 0] : List Value).toArray 36 (0, 0)) ∧ w3.heap[gR + 1]? = some (.cells ([.int .i64 fr, .int .i64 dst, .int .i64 m.k, .int .i64 m.s, .int .i64 m.a, .int .i64 m.p, .int .i64 m.q, .int .i64 m.n, .int .i64 m.e, .int .i64 m.r, .slice A1 ls1 c1, .slice A2 lp1 c2] : List Value).toArray 36 (0, 0)) ∧
        ∀ w9, Ch w3 w9 (fun k => k = gR) → MsgC w9 m A1 A2 c1 c2 ∧ (∃ F', NetR w9 gN F' (ls.eraseIdx i) lost ∧ ∀ k, F' k → F k ∨ w.heap.size ≤ k) ∧ Ch w w9 F) := ⟨by
    intro w2 hc hr
    have hblk2 := hc.blk hPB.blk (fun e => (h.okF g hokg).2.1 e.symm)
    refine ⟨⟨by rw [hn]; exact cell_of_blk hblk2, frozen_of_blk hblk2⟩, fun w3 hw3 => ?_⟩
    obtain ⟨F', hP3, hF', hc3⟩ := hPB.put (w1 := w2) (rv' := .slice (some ⟨g, 0, none⟩) (n - 1) c) (ls' := ls.eraseIdx i) (ok' := ok) (hc.mono (fun k hk => by rw [hk]; rfl)) hr (fun k hk => .inl hk) (by rw [List.length_eraseIdx]; split <;> omega)
    rw [← hw3] at hP3 hc3
    have hFR : ¬ F gR := fun e => by have := h.flt _ e; omega
    have hFR1 : ¬ F (gR + 1) := fun e => by have := h.flt _ e; omega
    refine ⟨hc3.blk ((hbB.block gR (by omega)).trans hgA) hFR, hc3.blk h6 hFR1, fun w9 hc9 => ?_⟩
    have hc23 : Ch wB w3 (fun k => k = g ∨ k = gN) := by
      rw [hw3]
      exact (hc.mono (fun k hk => .inl hk)).setCell ⟨gN, 0, none⟩ _ (.inr rfl)
    have hcB9 : Ch wB w9 (fun k => k = g ∨ k = gN ∨ wA.heap.size ≤ k + 1) := (hc23.mono (fun k hk => by rcases hk with hk | hk; exact .inl hk; exact .inr (.inl hk))).trans hc9 (fun k _ hk => .inr (.inr (by omega)))
    have hst : ∀ k, (ok k ∧ k ≠ g) → k < w.heap.size → w9.heap[k]? = w.heap[k]? := fun k hk hlt => (hcB9.block k (by omega) (fun e => by
      rcases e with e | e | e
      · exact hk.2 e
      · exact (h.okF k hk.1).2.1 e
      · omega)).trans (hbAB.block k hlt)
    have hs1' := Kd.R_step hs1 hst
    have hs2' := Kd.R_step hs2 hst
    refine ⟨?_, ⟨F', ⟨gT, _, _, hP3.ch hc9 (fun k hk e => ?_)⟩, fun k hk => ?_⟩, ?_⟩
    · rw [hls1] at hs1'
      rw [hlp1] at hs2'
      exact MsgC.of hs1' hs2'
    · rcases hF' k hk with h1 | h1
      · exact hFR (by rw [← e]; exact h1)
      · omega
    · rcases hF' k hk with h1 | h1
      · exact .inl h1
      · exact .inr (by omega)
    · exact ((Ch.of_below hbAB F).trans hc3 (fun k _ hk => hk)).trans hc9 (fun k hk e => by omega)⟩
  have HA := Aside0.mk (And.intro hwA (And.intro hgR hwB))
  have HSA : Aside0 (wA.heap.size = gR + 1) := ⟨by rw [hgR]; exact hsA⟩
  have hu := Try.underlying36
  have hum := Try.underlying34
  clear h hokg hat hs1 hs2 hbA hgA hsA hbB h6 hsB hbAB hPA hPB hrow hgFlt hNlt hwA hgR hwB hx hi hls1 hlp1 hn hiN
  unfold letV
  go_enter Try.func15, Try.ntmps15
  go_upto_region 1 with (fail)
  rw [← HA.out.1, ← HA.out.2.1]
  go_wp2_with fail
  refine HIS.out.mono ?_
  rintro e w1 ⟨rfl, rfl⟩
  obtain ⟨f0, f1, f2, f3, f4, f5, f6, f7, f8, f9, fa, fb⟩ := HATA.out
  go_upto_region 4 with (fail)
  rw [← HA.out.2.2, HSA.out]
  clear f0 f1 f2 f3 f4 f5 f6 f7 f8 f9 fa fb
  go_wp2_with fail
  refine HDEL.out.mono ?_
  rintro e w2 ⟨rfl, hr2, hc2⟩
  obtain ⟨⟨hq2, hz2⟩, H3⟩ := HEND.out w2 hc2 hr2
  have H3A := Aside0.mk H3
  clear hr2 hc2 H3 hcA hcB
  go_upto_region 5 with (fail)
  obtain ⟨w3, hw3⟩ : ∃ w', w' = w2.setCell ⟨gN, 0, none⟩ (.slice (some ⟨g, 0, none⟩) (n - 1) c) := ⟨_, rfl⟩
  rw [← hw3]
  obtain ⟨hgR3, hg63, H9⟩ := H3A.out w3 hw3
  have HGR3 := Aside0.mk hgR3
  have H9A := Aside0.mk H9
  have l0 : w3.cell? ⟨gR + 1, 0, none⟩ = some (.int .i64 fr) := cell_of_blk hg63
  have l1 : w3.cell? ⟨gR + 1, 1, none⟩ = some (.int .i64 dst) := cell_of_blk hg63
  have l2 : w3.cell? ⟨gR + 1, 2, none⟩ = some (.int .i64 m.k) := cell_of_blk hg63
  have l3 : w3.cell? ⟨gR + 1, 3, none⟩ = some (.int .i64 m.s) := cell_of_blk hg63
  have l4 : w3.cell? ⟨gR + 1, 4, none⟩ = some (.int .i64 m.a) := cell_of_blk hg63
  have l5 : w3.cell? ⟨gR + 1, 5, none⟩ = some (.int .i64 m.p) := cell_of_blk hg63
  have l6 : w3.cell? ⟨gR + 1, 6, none⟩ = some (.int .i64 m.q) := cell_of_blk hg63
  have l7 : w3.cell? ⟨gR + 1, 7, none⟩ = some (.int .i64 m.n) := cell_of_blk hg63
  have l8 : w3.cell? ⟨gR + 1, 8, none⟩ = some (.int .i64 m.e) := cell_of_blk hg63
  have l9 : w3.cell? ⟨gR + 1, 9, none⟩ = some (.int .i64 m.r) := cell_of_blk hg63
  have l10 : w3.cell? ⟨gR + 1, 10, none⟩ = some (.slice A1 ls1 c1) := cell_of_blk hg63
  have l11 : w3.cell? ⟨gR + 1, 11, none⟩ = some (.slice A2 lp1 c2) := cell_of_blk hg63
  have r0 : w3.cell? ⟨gR, 0, none⟩ = some (.int .i64 0) := cell_of_blk hgR3
  have z0 : w3.frozen? ⟨gR, 0, none⟩ = false := frozen_of_blk hgR3
  have r1 : w3.cell? ⟨gR, 1, none⟩ = some (.int .i64 0) := cell_of_blk hgR3
  have z1 : w3.frozen? ⟨gR, 1, none⟩ = false := frozen_of_blk hgR3
  have r2 : w3.cell? ⟨gR, 2, none⟩ = some (.int .i64 0) := cell_of_blk hgR3
  have z2 : w3.frozen? ⟨gR, 2, none⟩ = false := frozen_of_blk hgR3
  have r3 : w3.cell? ⟨gR, 3, none⟩ = some (.int .i64 0) := cell_of_blk hgR3
  have z3 : w3.frozen? ⟨gR, 3, none⟩ = false := frozen_of_blk hgR3
  have r4 : w3.cell? ⟨gR, 4, none⟩ = some (.int .i64 0) := cell_of_blk hgR3
  have z4 : w3.frozen? ⟨gR, 4, none⟩ = false := frozen_of_blk hgR3
  have r5 : w3.cell? ⟨gR, 5, none⟩ = some (.int .i64 0) := cell_of_blk hgR3
  have z5 : w3.frozen? ⟨gR, 5, none⟩ = false := frozen_of_blk hgR3
  have r6 : w3.cell? ⟨gR, 6, none⟩ = some (.int .i64 0) := cell_of_blk hgR3
  have z6 : w3.frozen? ⟨gR, 6, none⟩ = false := frozen_of_blk hgR3
  have r7 : w3.cell? ⟨gR, 7, none⟩ = some (.int .i64 0) := cell_of_blk hgR3
  have z7 : w3.frozen? ⟨gR, 7, none⟩ = false := frozen_of_blk hgR3
  have r8 : w3.cell? ⟨gR, 8, none⟩ = some (.int .i64 0) := cell_of_blk hgR3
  have z8 : w3.frozen? ⟨gR, 8, none⟩ = false := frozen_of_blk hgR3
  have r9 : w3.cell? ⟨gR, 9, none⟩ = some (.int .i64 0) := cell_of_blk hgR3
  have z9 : w3.frozen? ⟨gR, 9, none⟩ = false := frozen_of_blk hgR3
  have r10 : w3.cell? ⟨gR, 10, none⟩ = some (.slice none 0 0) := cell_of_blk hgR3
  have z10 : w3.frozen? ⟨gR, 10, none⟩ = false := frozen_of_blk hgR3
  have r11 : w3.cell? ⟨gR, 11, none⟩ = some (.slice none 0 0) := cell_of_blk hgR3
  have z11 : w3.frozen? ⟨gR, 11, none⟩ = false := frozen_of_blk hgR3
  clear hgR3 hg63 H9 hw3 hq2 hz2
  go_wp2_with fail
  obtain ⟨w9, hw9⟩ : ∃ w9, w9 = wrote12 w3 gR (.int .i64 fr) (.int .i64 dst) (.int .i64 m.k) (.int .i64 m.s) (.int .i64 m.a) (.int .i64 m.p) (.int .i64 m.q) (.int .i64 m.n) (.int .i64 m.e) (.int .i64 m.r) (.slice A1 ls1 c1) (.slice A2 lp1 c2) := ⟨_, rfl⟩
  have hq9 := set12 HGR3.out (.int .i64 fr) (.int .i64 dst) (.int .i64 m.k) (.int .i64 m.s) (.int .i64 m.a) (.int .i64 m.p) (.int .i64 m.q) (.int .i64 m.n) (.int .i64 m.e) (.int .i64 m.r) (.slice A1 ls1 c1) (.slice A2 lp1 c2)
  have hc9 := set12_ch w3 gR (.int .i64 fr) (.int .i64 dst) (.int .i64 m.k) (.int .i64 m.s) (.int .i64 m.a) (.int .i64 m.p) (.int .i64 m.q) (.int .i64 m.n) (.int .i64 m.e) (.int .i64 m.r) (.slice A1 ls1 c1) (.slice A2 lp1 c2)
  rw [← hw9] at hq9 hc9
  unfold wrote12 at hw9
  rw [← hw9]
  have y0 : w9.cell? ⟨gR, 0, none⟩ = some (.int .i64 fr) := cell_of_blk hq9
  have y1 : w9.cell? ⟨gR, 1, none⟩ = some (.int .i64 dst) := cell_of_blk hq9
  have y2 : w9.cell? ⟨gR, 2, none⟩ = some (.int .i64 m.k) := cell_of_blk hq9
  have y3 : w9.cell? ⟨gR, 3, none⟩ = some (.int .i64 m.s) := cell_of_blk hq9
  have y4 : w9.cell? ⟨gR, 4, none⟩ = some (.int .i64 m.a) := cell_of_blk hq9
  have y5 : w9.cell? ⟨gR, 5, none⟩ = some (.int .i64 m.p) := cell_of_blk hq9
  have y6 : w9.cell? ⟨gR, 6, none⟩ = some (.int .i64 m.q) := cell_of_blk hq9
  have y7 : w9.cell? ⟨gR, 7, none⟩ = some (.int .i64 m.n) := cell_of_blk hq9
  have y8 : w9.cell? ⟨gR, 8, none⟩ = some (.int .i64 m.e) := cell_of_blk hq9
  have y9 : w9.cell? ⟨gR, 9, none⟩ = some (.int .i64 m.r) := cell_of_blk hq9
  have y10 : w9.cell? ⟨gR, 10, none⟩ = some (.slice A1 ls1 c1) := cell_of_blk hq9
  have y11 : w9.cell? ⟨gR, 11, none⟩ = some (.slice A2 lp1 c2) := cell_of_blk hq9
  clear hw9 hq9
  have HF := Aside0.mk (H9A.out w9 hc9)
  clear hc9 l0 r0 z0 l1 r1 z1 l2 r2 z2 l3 r3 z3 l4 r4 z4 l5 r5 z5 l6 r6 z6 l7 r7 z7 l8 r8 z8 l9 r9 z9 l10 r10 z10 l11 r11 z11
  refine bodyPost_ret (v := .tuple #[.agg #[.int .i64 fr, .int .i64 dst, .int .i64 m.k, .int .i64 m.s, .int .i64 m.a, .int .i64 m.p, .int .i64 m.q, .int .i64 m.n, .int .i64 m.e, .int .i64 m.r, .slice A1 ls1 c1, .slice A2 lp1 c2], .bool true]) ?_ rfl ⟨A1, A2, c1, c2, rfl, HF.out⟩
  simp [results, Try.results15, go_sem, *]
end Go.Proofs.Ytkgbcoijkmlmnaa.K
