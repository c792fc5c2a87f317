/- The document's net: a letter doubled. WRITTEN BY wip/gen_refdouble.py. -/
import Derived.Test.YtkgbcoijkmlmnaaE18
set_option linter.unusedVariables false
set_option linter.unusedSimpArgs false
set_option maxRecDepth 100000
namespace Go.Proofs.Ytkgbcoijkmlmnaa.K
open Go.RowKit Go.Proofs.YtkgbcoijkmlmnaaW.PrintWords Go.Proofs.YtkgbcoijkmlmnaaW.PrintLast Go.Proofs.YtkgbcoijkmlmnaaW.PrintMore Go.Proofs.Ytkgbcoijkmlmnaa.U Go.Proofs.Ytkgbcoijkmlmnaa.T

theorem refDouble_no (w : World) (gR : Nat) (Z : Nat → Prop) (A : Option Addr) (c : Nat) (zs : List LetZ) (h : RefN w gR Z A c zs) (i : Int) (hno : ¬ (0 ≤ i ∧ i < zs.length ∧ zs.length < 128)) :
    Calls Try.prog 19 #[.pointer (some ⟨gR, 0, none⟩), .int .i64 i] w fun e w' => e = .returned (.bool false) ∧ w' = w := by
  have hcr : w.cell? ⟨gR, 0, none⟩ = some (.slice A zs.length c) := cell_of_blk h.blk
  clear h
  have hor : i < 0 ∨ (¬ i < 0 ∧ (zs.length : Int) ≤ i) ∨ (¬ i < 0 ∧ ¬ (zs.length : Int) ≤ i ∧ (128 : Int) ≤ zs.length) := by omega
  clear hno
  rcases hor with h1 | ⟨h1, h2⟩ | ⟨h1, h2, h3⟩
  all_goals
    go_enter Try.func19, Try.ntmps19
    go_wp2_with fail
    go_ret
    exact ⟨rfl, rfl⟩
set_option maxHeartbeats 4000000 in
theorem refDouble_ok (wr : World) (gR : Nat) (Z : Nat → Prop) (A : Option Addr) (c : Nat) (zs : List LetZ) (h : RefN wr gR Z A c zs) (i : Nat) (hi : i < zs.length) (hf : zs.length < 128) (z : LetZ) (hz : zs[i] = z) (hs : SlZ z) :
    Calls Try.prog 19 #[.pointer (some ⟨gR, 0, none⟩), .int .i64 (i : Int)] wr fun e w' => e = .returned (.bool true) ∧ (∃ A' c', RefN w' gR Z A' c' (zs ++ [z])) ∧ Ch wr w' (fun k => k = gR) := by
  have HN := Aside0.mk h
  have hcr : wr.cell? ⟨gR, 0, none⟩ = some (.slice A zs.length c) := cell_of_blk h.blk
  obtain ⟨_, _, h3⟩ := h.now
  obtain ⟨ad, rfl, hcx⟩ := h3 (by omega)
  obtain ⟨cs, _, hK, hcell⟩ := hcx i z (by rw [← hz]; exact List.getElem?_eq_getElem hi)
  obtain ⟨x, sv, pv⟩ := z
  obtain ⟨A1, c1, A2, c2, h5', h6'⟩ := hs
  obtain ⟨fr, dst, m⟩ := x
  have h5 : sv = .slice A1 m.set.length c1 := h5'
  have h6 : pv = .slice A2 m.prs.length c2 := h6'
  clear h5' h6'
  obtain ⟨hcs, _, _⟩ := hK
  subst hcs
  subst h5
  subst h6
  have hlx : LetAt wr (ad.add (i * 12)) fr dst m (.slice A1 m.set.length c1) (.slice A2 m.prs.length c2) := LetAt.of (x := ⟨fr, dst, m⟩) hcell
  obtain ⟨P0, hP0⟩ : ∃ P, ad.add (i * 12) = P := ⟨_, rfl⟩
  rw [hP0] at hlx
  obtain ⟨g0, o0, z0⟩ := P0
  obtain ⟨ls1, hls1⟩ : ∃ n, n = m.set.length := ⟨_, rfl⟩
  obtain ⟨lp1, hlp1⟩ : ∃ n, n = m.prs.length := ⟨_, rfl⟩
  rw [← hls1, ← hlp1] at hlx ⊢
  have HLX := Aside0.mk hlx
  have hu := Try.underlying36
  have hum := Try.underlying34
  have hiI : (i : Int) < zs.length := by omega
  have hi0 : (0 : Int) ≤ (i : Int) := by omega
  have hfI : ¬ (128 : Int) ≤ zs.length := by omega
  clear h hcell hcx h3 hz hlx hls1 hlp1
  go_enter Try.func19, Try.ntmps19
  have hCL := HN.out.now
  have hLn : zs.length ≤ 128 := by omega
  have hh0 : HeldN wr wr.drew := below_drew wr
  have hdr : wr.drew.cell? ⟨gR, 0, none⟩ = some (.slice (some ad) zs.length c) := (hh0.cell (World.block_lt_of_cell? _ _ hcr)).trans hcr
  have HCPY : Aside0 (∀ W, HeldN wr W → ∀ ty, Runs Try.prog (Builtin.append_ #[28, 28] ty #[.slice none 0 0, .slice (some ad) zs.length c]) W fun v w1 => ∃ A1 c1, v = .slice A1 zs.length c1 ∧ Own kLR 36 w1 wr.heap.size (.slice A1 zs.length c1) zs ∧ HeldN wr w1 ∧ HeldN W w1) := ⟨fun W hW ty => app_copy wr W hW (some ad) zs.length c zs rfl (Kd.C_below hCL hW) (by omega) ty⟩
  have HSTAY : Aside0 (∀ W, HeldN wr W → (W.cell? ⟨gR, 0, none⟩ = some (.slice (some ad) zs.length c)) ∧ LetAt W ⟨g0, o0, z0⟩ fr dst m (.slice A1 ls1 c1) (.slice A2 lp1 c2)) := ⟨fun W hW => ⟨(hW.cell (World.block_lt_of_cell? _ _ hcr)).trans hcr, HLX.out.below hW⟩⟩
  have HLIT : Aside0 (∀ W : World, Kd.C kLR (W.alloc (.cells #[.int .i64 fr, .int .i64 dst, .int .i64 m.k, .int .i64 m.s, .int .i64 m.a, .int .i64 m.p, .int .i64 m.q, .int .i64 m.n, .int .i64 m.e, .int .i64 m.r, .slice A1 ls1 c1, .slice A2 lp1 c2] 36)) (some ⟨W.heap.size, 0, none⟩) 1 [(⟨⟨fr, dst, m⟩, .slice A1 ls1 c1, .slice A2 lp1 c2⟩ : LetZ)]) := ⟨fun W => zs_C _ ⟨⟨fr, dst, m⟩, .slice A1 ls1 c1, .slice A2 lp1 c2⟩ rfl rfl (alloc_at W (.cells (rawZ ⟨⟨fr, dst, m⟩, .slice A1 ls1 c1, .slice A2 lp1 c2⟩).toArray 36))⟩
  have HAL : Aside0 (∀ W : World, HeldN W (W.alloc (.cells #[.int .i64 fr, .int .i64 dst, .int .i64 m.k, .int .i64 m.s, .int .i64 m.a, .int .i64 m.p, .int .i64 m.q, .int .i64 m.n, .int .i64 m.e, .int .i64 m.r, .slice A1 ls1 c1, .slice A2 lp1 c2] 36))) := ⟨fun W => (Below.refl _ _).alloc (Nat.le_refl _) _⟩
  obtain ⟨f0, f1, f2, f3, f4, f5, f6, f7, f8, f9, fa, fb⟩ := HLX.out.below hh0
  clear hCL
  have hhq : HeldN wr (wr.alloc (.cells #[.int .i64 fr, .int .i64 dst, .int .i64 m.k, .int .i64 m.s, .int .i64 m.a, .int .i64 m.p, .int .i64 m.q, .int .i64 m.n, .int .i64 m.e, .int .i64 m.r, .slice A1 ls1 c1, .slice A2 lp1 c2] 36)).drew := (HAL.out wr).then_ (below_drew _)
  have hqr : (wr.alloc (.cells #[.int .i64 fr, .int .i64 dst, .int .i64 m.k, .int .i64 m.s, .int .i64 m.a, .int .i64 m.p, .int .i64 m.q, .int .i64 m.n, .int .i64 m.e, .int .i64 m.r, .slice A1 ls1 c1, .slice A2 lp1 c2] 36)).drew.cell? ⟨gR, 0, none⟩ = some (.slice (some ad) zs.length c) := (HSTAY.out _ hhq).1
  have hLz : (zs ++ [(⟨⟨fr, dst, m⟩, .slice A1 ls1 c1, .slice A2 lp1 c2⟩ : LetZ)]).length = zs.length + 1 := by simp
  have HLZ := Aside0.mk hLz
  clear hLz
  have HPUT : Aside0 (∀ (w2 : World) (v : Value), (∃ C2 e2, v = .slice C2 (zs ++ [(⟨⟨fr, dst, m⟩, .slice A1 ls1 c1, .slice A2 lp1 c2⟩ : LetZ)]).length e2 ∧ Own kLR 36 w2 wr.heap.size (.slice C2 (zs ++ [(⟨⟨fr, dst, m⟩, .slice A1 ls1 c1, .slice A2 lp1 c2⟩ : LetZ)]).length e2) (zs ++ [(⟨⟨fr, dst, m⟩, .slice A1 ls1 c1, .slice A2 lp1 c2⟩ : LetZ)]) ∧ HeldN wr w2) → ∃ C2 e2, v = .slice C2 (zs.length + 1) e2 ∧ (w2.cell? ⟨gR, 0, none⟩ = some (.slice (some ad) zs.length c) ∧ w2.frozen? ⟨gR, 0, none⟩ = false) ∧ Aside0 (∀ w9 : World, w9 = w2.setCell ⟨gR, 0, none⟩ (.slice C2 (zs.length + 1) e2) → RefN w9 gR Z C2 e2 (zs ++ [(⟨⟨fr, dst, m⟩, .slice A1 ls1 c1, .slice A2 lp1 c2⟩ : LetZ)]) ∧ Ch wr w9 (fun k => k = gR))) := ⟨by
    rintro w2 v ⟨C2, e2, rfl, hO2, hH2⟩
    obtain ⟨hq, H9⟩ := HN.out.put hH2 hO2
    rw [HLZ.out] at H9 ⊢
    exact ⟨C2, e2, rfl, hq, ⟨H9⟩⟩⟩
  have HM1 : Aside0 (∀ (w1 : World) (B1 : Option Addr) (d1 : Nat), HeldN wr w1 → Own kLR 36 w1 wr.heap.size (.slice B1 zs.length d1) zs → ∀ ty, Runs Try.prog (Builtin.append_ #[28, 28] ty #[.slice B1 zs.length d1, .slice (some ⟨w1.heap.size, 0, none⟩) 1 1]) (w1.alloc (.cells #[.int .i64 fr, .int .i64 dst, .int .i64 m.k, .int .i64 m.s, .int .i64 m.a, .int .i64 m.p, .int .i64 m.q, .int .i64 m.n, .int .i64 m.e, .int .i64 m.r, .slice A1 ls1 c1, .slice A2 lp1 c2] 36)) fun v w2 => ∃ C2 e2, v = .slice C2 (zs.length + 1) e2 ∧ (w2.cell? ⟨gR, 0, none⟩ = some (.slice (some ad) zs.length c) ∧ w2.frozen? ⟨gR, 0, none⟩ = false) ∧ Aside0 (∀ w9 : World, w9 = w2.setCell ⟨gR, 0, none⟩ (.slice C2 (zs.length + 1) e2) → RefN w9 gR Z C2 e2 (zs ++ [(⟨⟨fr, dst, m⟩, .slice A1 ls1 c1, .slice A2 lp1 c2⟩ : LetZ)]) ∧ Ch wr w9 (fun k => k = gR))) := ⟨fun w1 B1 d1 hH hO ty => (app_more wr _ (hH.then_ (HAL.out w1)) B1 zs.length d1 zs [(⟨⟨fr, dst, m⟩, .slice A1 ls1 c1, .slice A2 lp1 c2⟩ : LetZ)] rfl (hO.below (HAL.out w1)) (some ⟨w1.heap.size, 0, none⟩) 1 1 rfl (HLIT.out w1) (by omega) ty).mono (fun v w2 h => HPUT.out w2 v h)⟩
  have HM2 : Aside0 (∀ (w1 : World) (B1 : Option Addr) (d1 : Nat), HeldN wr w1 → HeldN (wr.alloc (.cells #[.int .i64 fr, .int .i64 dst, .int .i64 m.k, .int .i64 m.s, .int .i64 m.a, .int .i64 m.p, .int .i64 m.q, .int .i64 m.n, .int .i64 m.e, .int .i64 m.r, .slice A1 ls1 c1, .slice A2 lp1 c2] 36)).drew w1 → Own kLR 36 w1 wr.heap.size (.slice B1 zs.length d1) zs → ∀ ty, Runs Try.prog (Builtin.append_ #[28, 28] ty #[.slice B1 zs.length d1, .slice (some ⟨wr.heap.size, 0, none⟩) 1 1]) w1 fun v w2 => ∃ C2 e2, v = .slice C2 (zs.length + 1) e2 ∧ (w2.cell? ⟨gR, 0, none⟩ = some (.slice (some ad) zs.length c) ∧ w2.frozen? ⟨gR, 0, none⟩ = false) ∧ Aside0 (∀ w9 : World, w9 = w2.setCell ⟨gR, 0, none⟩ (.slice C2 (zs.length + 1) e2) → RefN w9 gR Z C2 e2 (zs ++ [(⟨⟨fr, dst, m⟩, .slice A1 ls1 c1, .slice A2 lp1 c2⟩ : LetZ)]) ∧ Ch wr w9 (fun k => k = gR))) := ⟨fun w1 B1 d1 hH hW hO ty => (app_more wr w1 hH B1 zs.length d1 zs [(⟨⟨fr, dst, m⟩, .slice A1 ls1 c1, .slice A2 lp1 c2⟩ : LetZ)] rfl hO (some ⟨wr.heap.size, 0, none⟩) 1 1 rfl (Kd.C_below (Kd.C_below (HLIT.out wr) (below_drew _)) hW) (by omega) ty).mono (fun v w2 h => HPUT.out w2 v h)⟩
  go_wp2_with fail
  go_region_law (first
    | (refine step_append_runs rfl (.const (.slice none 0 0)) (.tmp 28) 28 rfl (.slice none 0 0) (.slice (some ad) zs.length c) (by simp [Act.eval, Act.put]) (by simp [Act.eval, Act.put]) (HCPY.out _ (by first | exact hh0 | exact hhq)) ?_; rintro _ w1 ⟨B1, d1, rfl, hO1, hH1, hW1⟩; obtain ⟨p0, p1, p2, p3, p4, p5, p6, p7, p8, p9, pa, pb⟩ := (HSTAY.out w1 hH1).2; have hcr1 := (HSTAY.out w1 hH1).1)
    | (refine step_append_runs rfl (.tmp 29) (.tmp 37) 28 rfl (.slice B1 zs.length d1) (.slice (some ⟨w1.heap.size, 0, none⟩) 1 1) (by simp [Act.eval, Act.put]) (by simp [Act.eval, Act.put]) (HM1.out w1 B1 d1 hH1 hO1) ?_; rintro _ w2 ⟨C2, e2, rfl, ⟨hq2, hz2⟩, H9A⟩)
    | (refine step_append_runs rfl (.tmp 29) (.tmp 37) 28 rfl (.slice B1 zs.length d1) (.slice (some ⟨wr.heap.size, 0, none⟩) 1 1) (by simp [Act.eval, Act.put]) (by simp [Act.eval, Act.put]) (HM2.out w1 B1 d1 hH1 hW1 hO1) ?_; rintro _ w2 ⟨C2, e2, rfl, ⟨hq2, hz2⟩, H9A⟩))
  all_goals
    obtain ⟨w9, hw9⟩ : ∃ w9, w9 = w2.setCell ⟨gR, 0, none⟩ (.slice C2 (zs.length + 1) e2) := ⟨_, rfl⟩
    rw [← hw9]
    obtain ⟨hR9, hC9⟩ := H9A.out w9 hw9
    have HR9 := Aside0.mk (And.intro hR9 hC9)
    clear hw9 hR9 hC9 hq2 hz2
    go_wp2_with fail
    go_ret
    exact ⟨rfl, ⟨C2, e2, HR9.out.1⟩, HR9.out.2⟩
end Go.Proofs.Ytkgbcoijkmlmnaa.K
