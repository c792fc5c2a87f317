/- A letter is doubled. WRITTEN BY wip/gen_double.py. -/
import Derived.Test.YtkgbcoijkmlmnaaE10
set_option linter.unusedVariables false
set_option linter.unusedSimpArgs false
set_option maxRecDepth 100000
namespace Go.Proofs.Ytkgbcoijkmlmnaa.K
open Go.RowKit Go.Proofs.YtkgbcoijkmlmnaaW.PrintWords Go.Proofs.YtkgbcoijkmlmnaaW.PrintLast Go.Proofs.YtkgbcoijkmlmnaaW.PrintMore Go.Proofs.Ytkgbcoijkmlmnaa.U Go.Proofs.Ytkgbcoijkmlmnaa.T

theorem netDouble_no (w : World) (gN : Nat) (F : Nat → Prop) (ls : List LetD) (lost : Int) (h : NetR w gN F ls lost) (i : Int) (hno : ¬ (0 ≤ i ∧ i < ls.length ∧ ls.length < 128)) :
    Calls Try.prog 18 #[.pointer (some ⟨gN, 0, none⟩), .int .i64 i] w fun e w' => e = .returned (.bool false) ∧ w' = w := by
  obtain ⟨r, hr⟩ := bool_iff (0 ≤ i ∧ i < ls.length)
  have HIS := Aside0.mk (netIs w gN F ls lost h i r hr)
  obtain ⟨gT, rv, ok, h⟩ := h
  obtain ⟨A, c, rfl, _, _⟩ := Kd.R_reads h.row
  have hc0 : w.cell? ⟨gN, 0, none⟩ = some (.slice A ls.length c) := cell_of_blk h.blk
  clear h
  cases r with
  | false =>
    clear hr
    go_enter Try.func18, Try.ntmps18
    go_wp2_with fail
    refine HIS.out.mono ?_
    rintro e w1 ⟨rfl, rfl⟩
    go_wp2_with fail
    go_ret
    exact ⟨rfl, rfl⟩
  | true =>
    have hfull : (128 : Int) ≤ ls.length := by
      have := hr.1 rfl
      omega
    clear hr
    go_enter Try.func18, Try.ntmps18
    go_wp2_with fail
    refine HIS.out.mono ?_
    rintro e w1 ⟨rfl, rfl⟩
    go_wp2_with fail
    go_ret
    exact ⟨rfl, rfl⟩
set_option maxHeartbeats 6400000 in
theorem netDouble_ok (w : World) (gN : Nat) (F : Nat → Prop) (ls : List LetD) (lost : Int) (h : NetR w gN F ls lost) (i : Nat) (hi : i < ls.length) (hf : ls.length < 128) (x : LetD) (hx : ls[i] = x) (hxl : x.m.set.length ≤ 1000000 ∧ x.m.prs.length ≤ 1000000) :
    Calls Try.prog 18 #[.pointer (some ⟨gN, 0, none⟩), .int .i64 (i : Int)] w fun e w' => e = .returned (.bool true) ∧ (∃ F', NetR w' gN F' (ls ++ [x]) lost ∧ ∀ k, F' k → F k ∨ w.heap.size ≤ k) ∧ Ch w w' F := by
  have HIS := Aside0.mk (netIs w gN F ls lost h (i : Int) true (by simp; omega))
  obtain ⟨gT, rv, ok, h⟩ := h
  obtain ⟨g, c, A1, c1, A2, c2, rfl, hokg, hat, hs1, hs2⟩ := h.elem i hi
  rw [hx] at hat hs1 hs2
  obtain ⟨fr, dst, m⟩ := x
  have hat : LetAt w ⟨g, i * 12, none⟩ fr dst m (.slice A1 m.set.length c1) (.slice A2 m.prs.length c2) := hat
  have hmc : MsgC w m A1 A2 c1 c2 := MsgC.of hs1 hs2
  have hxl : m.set.length ≤ 1000000 ∧ m.prs.length ≤ 1000000 := hxl
  obtain ⟨ls1, hls1⟩ : ∃ n, n = m.set.length := ⟨_, rfl⟩
  obtain ⟨lp1, hlp1⟩ : ∃ n, n = m.prs.length := ⟨_, rfl⟩
  rw [← hls1, ← hlp1] at hat
  have HLS1 := Aside0.mk (And.intro hls1 hlp1)
  have HPL := Aside0.mk h
  have hP : (⟨g, 0, none⟩ : Addr).add (i * 12) = ⟨g, i * 12, none⟩ := by rw [add_plain]
  have hOWN : Aside0 (∀ w', HeldN w w' → Calls Try.prog 43 #[.agg #[.int .i64 fr, .int .i64 dst, .int .i64 m.k, .int .i64 m.s, .int .i64 m.a, .int .i64 m.p, .int .i64 m.q, .int .i64 m.n, .int .i64 m.e, .int .i64 m.r, .slice A1 ls1 c1, .slice A2 lp1 c2]] w' fun e w'' => ∃ B1 d1 B2 d2, e = .returned (.agg #[.int .i64 fr, .int .i64 dst, .int .i64 m.k, .int .i64 m.s, .int .i64 m.a, .int .i64 m.p, .int .i64 m.q, .int .i64 m.n, .int .i64 m.e, .int .i64 m.r, .slice B1 ls1 d1, .slice B2 lp1 d2]) ∧ Own kI 3 w'' w.heap.size (.slice B1 m.set.length d1) m.set ∧ Own kPair 114 w'' w.heap.size (.slice B2 m.prs.length d2) m.prs ∧ HeldN w w'') := ⟨fun w' hw => by
    have hO := own_ ⟨fr, dst, m⟩ A1 A2 c1 c2 w' (hmc.below hw) hxl.1 hxl.2
    rw [HLS1.out.1, HLS1.out.2]
    refine hO.mono ?_
    rintro e w'' ⟨sv, pv, rfl, h1, h2, hb⟩
    obtain ⟨B1, d1, rfl, _, _⟩ := h1.reads
    obtain ⟨B2, d2, rfl, _, _⟩ := h2.reads
    exact ⟨B1, d1, B2, d2, rfl, h1.lower hw.size, h2.lower hw.size, hw.then_ hb⟩⟩
  have hc0 : w.cell? ⟨gN, 0, none⟩ = some (.slice (some ⟨g, 0, none⟩) ls.length c) := cell_of_blk h.blk
  have hin : (i : Int) < ls.length := by omega
  have hi0 : (0 : Int) ≤ (i : Int) := by omega
  have hfI : ¬ (128 : Int) ≤ ls.length := by omega
  have hh0 : HeldN w w.drew := below_drew w
  have hd0 : w.drew.cell? ⟨gN, 0, none⟩ = some (.slice (some ⟨g, 0, none⟩) ls.length c) := cell_of_blk (h.below hh0).blk
  have HAT := Aside0.mk (hat.below hh0)
  have hu := Try.underlying36
  have hum := Try.underlying34
  clear h hokg hat hs1 hs2 hmc hls1 hlp1 hx
  go_enter Try.func18, Try.ntmps18
  go_wp2_with fail
  refine HIS.out.mono ?_
  rintro e w1 ⟨rfl, rfl⟩
  go_wp2_with fail
  obtain ⟨f0, f1, f2, f3, f4, f5, f6, f7, f8, f9, fa, fb⟩ := HAT.out
  go_region_law (first
    | (rw [if_pos (by rfl)]; go_simp; go_at_call 43; refine (hOWN.out _ hh0).mono ?_; rintro e wo ⟨B1, d1, B2, d2, rfl, hs, hp, hH⟩; obtain ⟨hbX, hrowX, hRX, hokX⟩ := HPL.out.room (x := ⟨fr, dst, m⟩) (wX := wo.alloc (.cells #[.int .i64 fr, .int .i64 dst, .int .i64 m.k, .int .i64 m.s, .int .i64 m.a, .int .i64 m.p, .int .i64 m.q, .int .i64 m.n, .int .i64 m.e, .int .i64 m.r, .slice B1 ls1 d1, .slice B2 lp1 d2] 36)) hH (by rw [HLS1.out.1, HLS1.out.2]; rfl) hs hp; have hco : wo.cell? ⟨gN, 0, none⟩ = some (.slice (some ⟨g, 0, none⟩) ls.length c) := cell_of_blk (HPL.out.below hH).blk; have hcX : (wo.alloc (.cells #[.int .i64 fr, .int .i64 dst, .int .i64 m.k, .int .i64 m.s, .int .i64 m.a, .int .i64 m.p, .int .i64 m.q, .int .i64 m.n, .int .i64 m.e, .int .i64 m.r, .slice B1 ls1 d1, .slice B2 lp1 d2] 36)).cell? ⟨gN, 0, none⟩ = some (.slice (some ⟨g, 0, none⟩) ls.length c) := cell_of_blk (HPL.out.below hbX).blk)
    | (refine Kd.R_append_rows_step kLet (w0 := wo.alloc (.cells #[.int .i64 fr, .int .i64 dst, .int .i64 m.k, .int .i64 m.s, .int .i64 m.a, .int .i64 m.p, .int .i64 m.q, .int .i64 m.n, .int .i64 m.e, .int .i64 m.r, .slice B1 ls1 d1, .slice B2 lp1 d2] 36)) 0 rfl _ _ 28 36 _ 128 rfl Try.underlying28 info_let rfl (by decide) (by decide) (.slice (some ⟨g, 0, none⟩) ls.length c) ls [⟨fr, dst, m⟩] (some ⟨wo.heap.size, 0, none⟩) 1 1 (fun k => ok k ∨ w1.heap.size ≤ k) (fun k => w1.heap.size ≤ k) rfl rfl hrowX hRX (fun _ _ h => h) hokX (fun k hk => .inr (Nat.le_trans hbX.size hk)) (Below.refl _ _) (Nat.zero_le _) (by omega) ?_; intro v5 w5 h5 hb5 hg5 hat5; obtain ⟨A5, c5, rfl, _, _⟩ := Kd.R_reads h5; obtain ⟨⟨hq5, hz5⟩, H9⟩ := HPL.out.grow hbX h5 hg5 hf; rw [show (ls ++ [(⟨fr, dst, m⟩ : LetD)]).length = ls.length + 1 from by simp] at H9 ⊢; have H9A := Aside0.mk H9; clear h5 hb5 hg5 hat5 H9))
  all_goals
    obtain ⟨w9, hw9⟩ : ∃ w9, w9 = w5.setCell ⟨gN, 0, none⟩ (.slice A5 (ls.length + 1) c5) := ⟨_, rfl⟩
    rw [← hw9]
    obtain ⟨F', hR9, hF9, hC9⟩ := H9A.out w9 hw9
    have HF := Aside0.mk (And.intro hR9 (And.intro hF9 hC9))
    clear hw9 hR9 hF9 hC9 hq5 hz5
    go_wp2_with fail
    go_ret
    exact ⟨rfl, ⟨F', HF.out.1, HF.out.2.1⟩, HF.out.2.2⟩
end Go.Proofs.Ytkgbcoijkmlmnaa.K
