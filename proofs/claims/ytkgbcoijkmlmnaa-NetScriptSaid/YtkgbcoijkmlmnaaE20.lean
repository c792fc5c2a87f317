/- The document's net: a letter taken. WRITTEN BY wip/gen_reftake.py. -/
import Derived.Test.YtkgbcoijkmlmnaaE19
import Derived.Test.YtkgbcoijkmlmnaaE16
set_option linter.unusedVariables false
set_option linter.unusedSimpArgs false
set_option maxRecDepth 100000
namespace Go.Proofs.Ytkgbcoijkmlmnaa.K
open Go.RowKit Go.Proofs.YtkgbcoijkmlmnaaW.PrintWords Go.Proofs.YtkgbcoijkmlmnaaW.PrintLast Go.Proofs.YtkgbcoijkmlmnaaW.PrintMore Go.Proofs.Ytkgbcoijkmlmnaa.U Go.Proofs.Ytkgbcoijkmlmnaa.T

set_option maxHeartbeats 2400000 in
theorem refTake_no (w : World) (gR : Nat) (Z : Nat → Prop) (A : Option Addr) (c : Nat) (zs : List LetZ) (h : RefN w gR Z A c zs) (i : Int) (hno : ¬ (0 ≤ i ∧ i < zs.length)) :
    Calls Try.prog 16 #[.pointer (some ⟨gR, 0, none⟩), .int .i64 i] w fun e w' => e = .returned (.tuple #[zeroV, .bool false]) ∧ Below w.heap.size w w' := by
  obtain ⟨g, hg⟩ : ∃ g, g = w.heap.size := ⟨_, rfl⟩
  obtain ⟨wA, hwA⟩ : ∃ w', w' = w.alloc (.cells #[.int .i64 0, .int .i64 0, .int .i64 0, .int .i64 0, .int .i64 0, .int .i64 0, .int .i64 0, .int .i64 0, .int .i64 0, .int .i64 0, .slice none 0 0, .slice none 0 0] 36) := ⟨_, rfl⟩
  have hbA : Below w.heap.size w wA := by rw [hwA]; exact (Below.refl _ _).alloc (Nat.le_refl _) _
  have hgA : wA.heap[g]? = some (.cells ([.int .i64 0, .int .i64 0, .int .i64 0, .int .i64 0, .int .i64 0, .int .i64 0, .int .i64 0, .int .i64 0, .int .i64 0, .int .i64 0, .slice none 0 0, .slice none 0 0] : List Value).toArray 36 (0, 0)) := by rw [hwA, hg]; exact alloc_at w _
  have hcr : wA.cell? ⟨gR, 0, none⟩ = some (.slice A zs.length c) := cell_of_blk ((hbA.block gR (h.zlt gR h.zg)).trans h.blk)
  have HWA := Aside0.mk hwA
  have HG := Aside0.mk hg
  have HGA := Aside0.mk hgA
  have HBA := Aside0.mk hbA
  have hor : i < 0 ∨ (¬ i < 0 ∧ (zs.length : Int) ≤ i) := by omega
  have f0 : wA.cell? ⟨g, 0, none⟩ = some (.int .i64 0) := cell_of_blk hgA
  have z0 : wA.frozen? ⟨g, 0, none⟩ = false := frozen_of_blk hgA
  have f1 : wA.cell? ⟨g, 1, none⟩ = some (.int .i64 0) := cell_of_blk hgA
  have z1 : wA.frozen? ⟨g, 1, none⟩ = false := frozen_of_blk hgA
  have f2 : wA.cell? ⟨g, 2, none⟩ = some (.int .i64 0) := cell_of_blk hgA
  have z2 : wA.frozen? ⟨g, 2, none⟩ = false := frozen_of_blk hgA
  have f3 : wA.cell? ⟨g, 3, none⟩ = some (.int .i64 0) := cell_of_blk hgA
  have z3 : wA.frozen? ⟨g, 3, none⟩ = false := frozen_of_blk hgA
  have f4 : wA.cell? ⟨g, 4, none⟩ = some (.int .i64 0) := cell_of_blk hgA
  have z4 : wA.frozen? ⟨g, 4, none⟩ = false := frozen_of_blk hgA
  have f5 : wA.cell? ⟨g, 5, none⟩ = some (.int .i64 0) := cell_of_blk hgA
  have z5 : wA.frozen? ⟨g, 5, none⟩ = false := frozen_of_blk hgA
  have f6 : wA.cell? ⟨g, 6, none⟩ = some (.int .i64 0) := cell_of_blk hgA
  have z6 : wA.frozen? ⟨g, 6, none⟩ = false := frozen_of_blk hgA
  have f7 : wA.cell? ⟨g, 7, none⟩ = some (.int .i64 0) := cell_of_blk hgA
  have z7 : wA.frozen? ⟨g, 7, none⟩ = false := frozen_of_blk hgA
  have f8 : wA.cell? ⟨g, 8, none⟩ = some (.int .i64 0) := cell_of_blk hgA
  have z8 : wA.frozen? ⟨g, 8, none⟩ = false := frozen_of_blk hgA
  have f9 : wA.cell? ⟨g, 9, none⟩ = some (.int .i64 0) := cell_of_blk hgA
  have z9 : wA.frozen? ⟨g, 9, none⟩ = false := frozen_of_blk hgA
  have f10 : wA.cell? ⟨g, 10, none⟩ = some (.slice none 0 0) := cell_of_blk hgA
  have z10 : wA.frozen? ⟨g, 10, none⟩ = false := frozen_of_blk hgA
  have f11 : wA.cell? ⟨g, 11, none⟩ = some (.slice none 0 0) := cell_of_blk hgA
  have z11 : wA.frozen? ⟨g, 11, none⟩ = false := frozen_of_blk hgA
  clear h hwA hg hbA hgA hno
  have hu := Try.underlying36
  have hum := Try.underlying34
  rcases hor with h1 | ⟨h1, h2⟩
  all_goals
    go_enter Try.func16, Try.ntmps16
    go_upto_region 1 with (fail)
    rw [← HWA.out, ← HG.out]
    go_wp2_with fail
    obtain ⟨w9, hw9⟩ : ∃ w9, w9 = wrote12 wA g (.int .i64 0) (.int .i64 0) (.int .i64 0) (.int .i64 0) (.int .i64 0) (.int .i64 0) (.int .i64 0) (.int .i64 0) (.int .i64 0) (.int .i64 0) (.slice none 0 0) (.slice none 0 0) := ⟨_, rfl⟩
    have hq9 := set12 HGA.out (.int .i64 0) (.int .i64 0) (.int .i64 0) (.int .i64 0) (.int .i64 0) (.int .i64 0) (.int .i64 0) (.int .i64 0) (.int .i64 0) (.int .i64 0) (.slice none 0 0) (.slice none 0 0)
    have hc9 := set12_ch wA g (.int .i64 0) (.int .i64 0) (.int .i64 0) (.int .i64 0) (.int .i64 0) (.int .i64 0) (.int .i64 0) (.int .i64 0) (.int .i64 0) (.int .i64 0) (.slice none 0 0) (.slice none 0 0)
    rw [← hw9] at hq9 hc9
    unfold wrote12 at hw9
    rw [← hw9]
    have y0 : w9.cell? ⟨g, 0, none⟩ = some (.int .i64 0) := cell_of_blk hq9
    have y1 : w9.cell? ⟨g, 1, none⟩ = some (.int .i64 0) := cell_of_blk hq9
    have y2 : w9.cell? ⟨g, 2, none⟩ = some (.int .i64 0) := cell_of_blk hq9
    have y3 : w9.cell? ⟨g, 3, none⟩ = some (.int .i64 0) := cell_of_blk hq9
    have y4 : w9.cell? ⟨g, 4, none⟩ = some (.int .i64 0) := cell_of_blk hq9
    have y5 : w9.cell? ⟨g, 5, none⟩ = some (.int .i64 0) := cell_of_blk hq9
    have y6 : w9.cell? ⟨g, 6, none⟩ = some (.int .i64 0) := cell_of_blk hq9
    have y7 : w9.cell? ⟨g, 7, none⟩ = some (.int .i64 0) := cell_of_blk hq9
    have y8 : w9.cell? ⟨g, 8, none⟩ = some (.int .i64 0) := cell_of_blk hq9
    have y9 : w9.cell? ⟨g, 9, none⟩ = some (.int .i64 0) := cell_of_blk hq9
    have y10 : w9.cell? ⟨g, 10, none⟩ = some (.slice none 0 0) := cell_of_blk hq9
    have y11 : w9.cell? ⟨g, 11, none⟩ = some (.slice none 0 0) := cell_of_blk hq9
    clear hw9 hq9 f0 z0 f1 z1 f2 z2 f3 z3 f4 z4 f5 z5 f6 z6 f7 z7 f8 z8 f9 z9 f10 z10 f11 z11
    have h3 : Below w.heap.size w w9 := Below.ch HBA.out hc9 HBA.out.size (fun k hk => by rw [hk, HG.out]; exact Nat.le_refl _)
    have HF := Aside0.mk h3
    clear h3 hc9
    refine bodyPost_ret (v := .tuple #[zeroV, .bool false]) ?_ rfl ⟨rfl, HF.out⟩
    simp [results, Try.results16, go_sem, *]
    rfl
set_option maxHeartbeats 4000000 in
theorem refTake_ok (w : World) (gR : Nat) (Z : Nat → Prop) (A : Option Addr) (c : Nat) (zs : List LetZ) (h : RefN w gR Z A c zs) (hz128 : zs.length ≤ 128) (i : Nat) (hi : i < zs.length) (x : LetD) (A1 : Option Addr) (c1 : Nat) (A2 : Option Addr) (c2 : Nat) (hz : zs[i] = ⟨x, .slice A1 x.m.set.length c1, .slice A2 x.m.prs.length c2⟩) :
    Calls Try.prog 16 #[.pointer (some ⟨gR, 0, none⟩), .int .i64 (i : Int)] w fun e w' => e = .returned (.tuple #[letV x (.slice A1 x.m.set.length c1) (.slice A2 x.m.prs.length c2), .bool true]) ∧ (∃ A' c', RefN w' gR Z A' c' (zs.eraseIdx i)) ∧ Ch w w' (fun k => k = gR) := by
  have HN := Aside0.mk h
  have hcr : w.cell? ⟨gR, 0, none⟩ = some (.slice A zs.length c) := cell_of_blk h.blk
  have hRlt := h.zlt gR h.zg
  have hle := h.le
  have hrow := h.now
  obtain ⟨_, _, h3⟩ := h.now
  obtain ⟨ad, rfl, hcx⟩ := h3 (by omega)
  obtain ⟨cs, _, hK, hcell⟩ := hcx i _ (List.getElem?_eq_getElem hi)
  rw [hz] at hK
  obtain ⟨fr, dst, m⟩ := x
  obtain ⟨hcs, _, _⟩ := hK
  subst hcs
  have hlx : LetAt w (ad.add (i * 12)) fr dst m (.slice A1 m.set.length c1) (.slice A2 m.prs.length c2) := LetAt.of (x := ⟨fr, dst, m⟩) hcell
  obtain ⟨P0, hP0⟩ : ∃ P, ad.add (i * 12) = P := ⟨_, rfl⟩
  rw [hP0] at hlx
  obtain ⟨g0, o0, z0⟩ := P0
  obtain ⟨ls1, hls1⟩ : ∃ n, n = m.set.length := ⟨_, rfl⟩
  obtain ⟨lp1, hlp1⟩ : ∃ n, n = m.prs.length := ⟨_, rfl⟩
  show Calls Try.prog 16 #[.pointer (some ⟨gR, 0, none⟩), .int .i64 (i : Int)] w fun e w' => e = .returned (.tuple #[letV ⟨fr, dst, m⟩ (.slice A1 m.set.length c1) (.slice A2 m.prs.length c2), .bool true]) ∧ (∃ A' c', RefN w' gR Z A' c' (zs.eraseIdx i)) ∧ Ch w w' (fun k => k = gR)
  rw [← hls1, ← hlp1] at hlx ⊢
  -- the worlds
  obtain ⟨gA, hgA⟩ : ∃ g, g = w.heap.size := ⟨_, rfl⟩
  obtain ⟨wA, hwA⟩ : ∃ w', w' = w.alloc (.cells #[.int .i64 0, .int .i64 0, .int .i64 0, .int .i64 0, .int .i64 0, .int .i64 0, .int .i64 0, .int .i64 0, .int .i64 0, .int .i64 0, .slice none 0 0, .slice none 0 0] 36) := ⟨_, rfl⟩
  have hbA : Below w.heap.size w wA := by rw [hwA]; exact (Below.refl _ _).alloc (Nat.le_refl _) _
  have hzA : wA.heap[gA]? = some (.cells ([.int .i64 0, .int .i64 0, .int .i64 0, .int .i64 0, .int .i64 0, .int .i64 0, .int .i64 0, .int .i64 0, .int .i64 0, .int .i64 0, .slice none 0 0, .slice none 0 0] : List Value).toArray 36 (0, 0)) := by rw [hwA, hgA]; exact alloc_at w _
  have hsA : wA.heap.size = gA + 1 := by rw [hwA, hgA]; exact World.size_alloc _ _
  obtain ⟨wB, hwB⟩ : ∃ w', w' = wA.alloc (.cells #[.int .i64 fr, .int .i64 dst, .int .i64 m.k, .int .i64 m.s, .int .i64 m.a, .int .i64 m.p, .int .i64 m.q, .int .i64 m.n, .int .i64 m.e, .int .i64 m.r, .slice A1 ls1 c1, .slice A2 lp1 c2] 36) := ⟨_, rfl⟩
  have hbB : Below wA.heap.size wA wB := by rw [hwB]; exact (Below.refl _ _).alloc (Nat.le_refl _) _
  have h6 : wB.heap[gA + 1]? = some (.cells ([.int .i64 fr, .int .i64 dst, .int .i64 m.k, .int .i64 m.s, .int .i64 m.a, .int .i64 m.p, .int .i64 m.q, .int .i64 m.n, .int .i64 m.e, .int .i64 m.r, .slice A1 ls1 c1, .slice A2 lp1 c2] : List Value).toArray 36 (0, 0)) := by rw [hwB, ← hsA]; exact alloc_at wA _
  have hbAB : HeldN w wB := below_then hbA hbA.size hbB
  have hzB := (hbB.block gA (blk_lt' hzA)).trans hzA
  have hcA : wA.cell? ⟨gR, 0, none⟩ = some (.slice (some ad) zs.length c) := (hbA.cell (World.block_lt_of_cell? _ _ hcr)).trans hcr
  have HLA := Aside0.mk (hlx.below hbA)
  have HN2 : Aside0 (RefN wB gR (fun k => Z k ∨ k = gA) (some ad) c zs) := ⟨h.step (T := fun _ => False) (Ch.of_below hbAB _) (fun _ _ h => h.elim) (.inl h.zg) (fun k hk => by
    rcases hk with hk | hk
    · exact Nat.lt_of_lt_of_le (h.zlt k hk) hbAB.size
    · rw [hk]; exact blk_lt' hzB) (fun k hk hz => by
    rcases hz with hz | hz
    · exact hz
    · omega)⟩
  have HSTAY : Aside0 (∀ W, HeldN w W → W.cell? ⟨gR, 0, none⟩ = some (.slice (some ad) zs.length c)) := ⟨fun W hW => (hW.cell (World.block_lt_of_cell? _ _ hcr)).trans hcr⟩
  have hh0 : HeldN wB wB.drew := below_drew wB
  have hdr := HSTAY.out _ (hbAB.then_ hh0)
  have HAB := Aside0.mk hbAB
  -- the two halves
  obtain ⟨n, hn⟩ : ∃ n, n = zs.length := ⟨_, rfl⟩
  obtain ⟨X, hX⟩ : ∃ X : Option Addr, X = (if c = i + 1 then some ad else (some ad).map (fun x => x.add ((i + 1) * 12))) := ⟨_, rfl⟩
  obtain ⟨mm, hmm⟩ : ∃ mm, mm = n - (i + 1) := ⟨_, rfl⟩
  have hfl : (zs.take i).length = i := by rw [List.length_take]; omega
  have hbl : ((zs.drop (i + 1)).take mm).length = mm := by rw [List.length_take, List.length_drop]; omega
  have hfr : ∀ W, HeldN w W → Kd.C kLR W (some ad) i (zs.take i) := fun W hW => by
    have h := C_mid (Kd.C_below hrow hW) 0 i (by omega)
    rw [List.drop_zero] at h
    have e : (some ad).map (fun x => x.add (0 * kLR.sz)) = some ad := by cases ad; rfl
    rwa [e] at h
  have hbk : ∀ W, HeldN w W → Kd.C kLR W X mm ((zs.drop (i + 1)).take mm) := fun W hW => by
    rw [hX]
    split
    · have h0 : mm = 0 := by omega
      rw [h0, List.take_zero]
      exact nil_C _ _ _
    · exact C_mid (Kd.C_below hrow hW) (i + 1) mm (by omega)
  have hers : zs.take i ++ (zs.drop (i + 1)).take mm = zs.eraseIdx i := by
    rw [List.eraseIdx_eq_take_drop_succ, List.take_of_length_le (l := zs.drop (i + 1)) (by rw [List.length_drop]; omega)]
  have hel : (zs.eraseIdx i).length = n - 1 := by rw [← hers, List.length_append, hfl, hbl]; omega
  have HCPY : Aside0 (∀ W, HeldN wB W → ∀ ty, Runs Try.prog (Builtin.append_ #[28, 28] ty #[.slice none 0 0, .slice (some ad) i c]) W fun v w1 => ∃ A1 c1, v = .slice A1 i c1 ∧ Own kLR 36 w1 wB.heap.size (.slice A1 i c1) (zs.take i) ∧ HeldN wB w1 ∧ HeldN W w1) := ⟨fun W hW ty => app_copy wB W hW (some ad) i c (zs.take i) hfl (hfr W (hbAB.then_ hW)) (by omega) ty⟩
  have HM : Aside0 (∀ (w1 : World) (B1 : Option Addr) (d1 : Nat), HeldN wB w1 → Own kLR 36 w1 wB.heap.size (.slice B1 i d1) (zs.take i) → ∀ ty, Runs Try.prog (Builtin.append_ #[28, 28] ty #[.slice B1 i d1, .slice X mm (c - (i + 1))]) w1 fun v w2 => ∃ C2 e2, v = .slice C2 (n - 1) e2 ∧ HeldN wB w2 ∧ (w2.cell? ⟨gR, 0, none⟩ = some (.slice (some ad) zs.length c) ∧ w2.frozen? ⟨gR, 0, none⟩ = false) ∧ Aside0 (∀ w9 : World, w9 = w2.setCell ⟨gR, 0, none⟩ (.slice C2 (n - 1) e2) → RefN w9 gR (fun k => Z k ∨ k = gA) C2 e2 (zs.eraseIdx i) ∧ Ch wB w9 (fun k => k = gR))) := ⟨fun w1 B1 d1 hH hO ty => (app_more wB w1 hH B1 i d1 (zs.take i) ((zs.drop (i + 1)).take mm) hfl hO X mm (c - (i + 1)) hbl (hbk w1 (hbAB.then_ hH)) (by omega) ty).mono (by
    rintro v w2 ⟨C2, e2, rfl, hO2, hH2⟩
    rw [hers] at hO2 ⊢
    obtain ⟨hq, H9⟩ := HN2.out.put hH2 hO2
    rw [hel] at H9 ⊢
    exact ⟨C2, e2, rfl, hH2, hq, ⟨H9⟩⟩)⟩
  have HBLK : Aside0 (∀ w2, HeldN wB w2 → w2.heap[gA]? = some (.cells ([.int .i64 0, .int .i64 0, .int .i64 0, .int .i64 0, .int .i64 0, .int .i64 0, .int .i64 0, .int .i64 0, .int .i64 0, .int .i64 0, .slice none 0 0, .slice none 0 0] : List Value).toArray 36 (0, 0)) ∧ w2.heap[gA + 1]? = some (.cells ([.int .i64 fr, .int .i64 dst, .int .i64 m.k, .int .i64 m.s, .int .i64 m.a, .int .i64 m.p, .int .i64 m.q, .int .i64 m.n, .int .i64 m.e, .int .i64 m.r, .slice A1 ls1 c1, .slice A2 lp1 c2] : List Value).toArray 36 (0, 0))) := ⟨fun w2 hh => ⟨(hh.block gA (blk_lt' hzB)).trans hzB, (hh.block (gA + 1) (blk_lt' h6)).trans h6⟩⟩
  have e1 : ((i : Int) + 1) = ((i + 1 : Nat) : Int) := by omega
  have hs1 : ∀ w, (Instr.slice 28 (.slice (some ad) n c) none (some (.int .i64 (i : Int))) none).run Try.prog w = .ok (.slice (some ad) i c) w := fun w => slL_front w _ n c i (by omega)
  have hs2 : ∀ w, (Instr.slice 28 (.slice (some ad) n c) (some (.int .i64 ((i : Int) + 1))) none none).run Try.prog w = .ok (.slice X mm (c - (i + 1))) w := fun w => by
    rw [e1, hX, hmm]
    exact slL_back w _ n c (i + 1) (by omega)
  have hiI : (i : Int) < n := by omega
  have hi0 : (0 : Int) ≤ (i : Int) := by omega
  have hi128 : (i : Int) < 128 := by omega
  have HWR : Aside0 (IntKind.i64.wrap ((i : Int) + 1) = (i : Int) + 1) := ⟨IntWalk.i64_in _ (by omega)⟩
  have HA := Aside0.mk (And.intro hwA (And.intro hgA (And.intro hwB hsA)))
  rw [← hn] at hdr hcA HSTAY HM
  have HGLT : Aside0 (gR < w.heap.size ∧ w.heap.size = gA) := ⟨hRlt, hgA.symm⟩
  have hu := Try.underlying36
  have hum := Try.underlying34
  clear h h3 hcx hcell hz hlx hls1 hlp1 hgA hwA hbA hzA hsA hwB hbB h6 hbAB hzB hn hX hmm hfl hbl hfr hbk hers hel e1 hcr hRlt hle hrow hz128 hi
  unfold letV
  go_enter Try.func16, Try.ntmps16
  go_upto_region 1 with (fail)
  rw [← HA.out.1, ← HA.out.2.1]
  obtain ⟨f0, f1, f2, f3, f4, f5, f6, f7, f8, f9, fa, fb⟩ := HLA.out
  go_upto_region 4 with (fail)
  rw [← HA.out.2.2.1, HA.out.2.2.2]
  clear f0 f1 f2 f3 f4 f5 f6 f7 f8 f9 fa fb hcA
  have hw1 := HWR.out
  go_region_law (first
    | (refine step_append_runs rfl (.const (.slice none 0 0)) (.tmp 32) 28 rfl (.slice none 0 0) (.slice (some ad) i c) (by simp [Act.eval, Act.put]) (by simp [Act.eval, Act.put]) (HCPY.out _ hh0) ?_; rintro _ w1 ⟨B1, d1, rfl, hO1, hH1, hW1⟩; have hcr1 := HSTAY.out w1 (HAB.out.then_ hH1))
    | (refine step_append_runs rfl (.tmp 33) (.tmp 40) 28 rfl (.slice B1 i d1) (.slice X mm (c - (i + 1))) (by simp [Act.eval, Act.put]) (by simp [Act.eval, Act.put]) (HM.out w1 B1 d1 hH1 hO1) ?_; rintro _ w2 ⟨C2, e2, rfl, hH2, ⟨hq2, hz2⟩, H9A⟩))
  all_goals
    clear hw1
    obtain ⟨w3, hw3⟩ : ∃ w3, w3 = w2.setCell ⟨gR, 0, none⟩ (.slice C2 (n - 1) e2) := ⟨_, rfl⟩
    rw [← hw3]
    obtain ⟨hR3, hC3⟩ := H9A.out w3 hw3
    obtain ⟨hb0, hb1⟩ := HBLK.out w2 hH2
    have hgR3 : w3.heap[gA]? = some (.cells ([.int .i64 0, .int .i64 0, .int .i64 0, .int .i64 0, .int .i64 0, .int .i64 0, .int .i64 0, .int .i64 0, .int .i64 0, .int .i64 0, .slice none 0 0, .slice none 0 0] : List Value).toArray 36 (0, 0)) := by
      rw [hw3]
      exact (setCell_other (g := gA) (k := gA) ⟨gR, 0, none⟩ _ (by have := HGLT.out; show gA ≠ gR; omega)).trans hb0
    have hg63 : w3.heap[gA + 1]? = some (.cells ([.int .i64 fr, .int .i64 dst, .int .i64 m.k, .int .i64 m.s, .int .i64 m.a, .int .i64 m.p, .int .i64 m.q, .int .i64 m.n, .int .i64 m.e, .int .i64 m.r, .slice A1 ls1 c1, .slice A2 lp1 c2] : List Value).toArray 36 (0, 0)) := by
      rw [hw3]
      exact (setCell_other (g := gA + 1) (k := gA + 1) ⟨gR, 0, none⟩ _ (by have := HGLT.out; show gA + 1 ≠ gR; omega)).trans hb1
    have HR3 := Aside0.mk (And.intro hR3 hC3)
    have HG3 := Aside0.mk hgR3
    have l0 : w3.cell? ⟨gA + 1, 0, none⟩ = some (.int .i64 fr) := cell_of_blk hg63
    have l1 : w3.cell? ⟨gA + 1, 1, none⟩ = some (.int .i64 dst) := cell_of_blk hg63
    have l2 : w3.cell? ⟨gA + 1, 2, none⟩ = some (.int .i64 m.k) := cell_of_blk hg63
    have l3 : w3.cell? ⟨gA + 1, 3, none⟩ = some (.int .i64 m.s) := cell_of_blk hg63
    have l4 : w3.cell? ⟨gA + 1, 4, none⟩ = some (.int .i64 m.a) := cell_of_blk hg63
    have l5 : w3.cell? ⟨gA + 1, 5, none⟩ = some (.int .i64 m.p) := cell_of_blk hg63
    have l6 : w3.cell? ⟨gA + 1, 6, none⟩ = some (.int .i64 m.q) := cell_of_blk hg63
    have l7 : w3.cell? ⟨gA + 1, 7, none⟩ = some (.int .i64 m.n) := cell_of_blk hg63
    have l8 : w3.cell? ⟨gA + 1, 8, none⟩ = some (.int .i64 m.e) := cell_of_blk hg63
    have l9 : w3.cell? ⟨gA + 1, 9, none⟩ = some (.int .i64 m.r) := cell_of_blk hg63
    have l10 : w3.cell? ⟨gA + 1, 10, none⟩ = some (.slice A1 ls1 c1) := cell_of_blk hg63
    have l11 : w3.cell? ⟨gA + 1, 11, none⟩ = some (.slice A2 lp1 c2) := cell_of_blk hg63
    have r0 : w3.cell? ⟨gA, 0, none⟩ = some (.int .i64 0) := cell_of_blk hgR3
    have z0 : w3.frozen? ⟨gA, 0, none⟩ = false := frozen_of_blk hgR3
    have r1 : w3.cell? ⟨gA, 1, none⟩ = some (.int .i64 0) := cell_of_blk hgR3
    have z1 : w3.frozen? ⟨gA, 1, none⟩ = false := frozen_of_blk hgR3
    have r2 : w3.cell? ⟨gA, 2, none⟩ = some (.int .i64 0) := cell_of_blk hgR3
    have z2 : w3.frozen? ⟨gA, 2, none⟩ = false := frozen_of_blk hgR3
    have r3 : w3.cell? ⟨gA, 3, none⟩ = some (.int .i64 0) := cell_of_blk hgR3
    have z3 : w3.frozen? ⟨gA, 3, none⟩ = false := frozen_of_blk hgR3
    have r4 : w3.cell? ⟨gA, 4, none⟩ = some (.int .i64 0) := cell_of_blk hgR3
    have z4 : w3.frozen? ⟨gA, 4, none⟩ = false := frozen_of_blk hgR3
    have r5 : w3.cell? ⟨gA, 5, none⟩ = some (.int .i64 0) := cell_of_blk hgR3
    have z5 : w3.frozen? ⟨gA, 5, none⟩ = false := frozen_of_blk hgR3
    have r6 : w3.cell? ⟨gA, 6, none⟩ = some (.int .i64 0) := cell_of_blk hgR3
    have z6 : w3.frozen? ⟨gA, 6, none⟩ = false := frozen_of_blk hgR3
    have r7 : w3.cell? ⟨gA, 7, none⟩ = some (.int .i64 0) := cell_of_blk hgR3
    have z7 : w3.frozen? ⟨gA, 7, none⟩ = false := frozen_of_blk hgR3
    have r8 : w3.cell? ⟨gA, 8, none⟩ = some (.int .i64 0) := cell_of_blk hgR3
    have z8 : w3.frozen? ⟨gA, 8, none⟩ = false := frozen_of_blk hgR3
    have r9 : w3.cell? ⟨gA, 9, none⟩ = some (.int .i64 0) := cell_of_blk hgR3
    have z9 : w3.frozen? ⟨gA, 9, none⟩ = false := frozen_of_blk hgR3
    have r10 : w3.cell? ⟨gA, 10, none⟩ = some (.slice none 0 0) := cell_of_blk hgR3
    have z10 : w3.frozen? ⟨gA, 10, none⟩ = false := frozen_of_blk hgR3
    have r11 : w3.cell? ⟨gA, 11, none⟩ = some (.slice none 0 0) := cell_of_blk hgR3
    have z11 : w3.frozen? ⟨gA, 11, none⟩ = false := frozen_of_blk hgR3
    clear hw3 hR3 hC3 hb0 hb1 hgR3 hg63 hq2 hz2
    go_wp2_with fail
    obtain ⟨w9, hw9⟩ : ∃ w9, w9 = wrote12 w3 gA (.int .i64 fr) (.int .i64 dst) (.int .i64 m.k) (.int .i64 m.s) (.int .i64 m.a) (.int .i64 m.p) (.int .i64 m.q) (.int .i64 m.n) (.int .i64 m.e) (.int .i64 m.r) (.slice A1 ls1 c1) (.slice A2 lp1 c2) := ⟨_, rfl⟩
    have hq9 := set12 HG3.out (.int .i64 fr) (.int .i64 dst) (.int .i64 m.k) (.int .i64 m.s) (.int .i64 m.a) (.int .i64 m.p) (.int .i64 m.q) (.int .i64 m.n) (.int .i64 m.e) (.int .i64 m.r) (.slice A1 ls1 c1) (.slice A2 lp1 c2)
    have hc9 := set12_ch w3 gA (.int .i64 fr) (.int .i64 dst) (.int .i64 m.k) (.int .i64 m.s) (.int .i64 m.a) (.int .i64 m.p) (.int .i64 m.q) (.int .i64 m.n) (.int .i64 m.e) (.int .i64 m.r) (.slice A1 ls1 c1) (.slice A2 lp1 c2)
    rw [← hw9] at hq9 hc9
    unfold wrote12 at hw9
    rw [← hw9]
    have y0 : w9.cell? ⟨gA, 0, none⟩ = some (.int .i64 fr) := cell_of_blk hq9
    have y1 : w9.cell? ⟨gA, 1, none⟩ = some (.int .i64 dst) := cell_of_blk hq9
    have y2 : w9.cell? ⟨gA, 2, none⟩ = some (.int .i64 m.k) := cell_of_blk hq9
    have y3 : w9.cell? ⟨gA, 3, none⟩ = some (.int .i64 m.s) := cell_of_blk hq9
    have y4 : w9.cell? ⟨gA, 4, none⟩ = some (.int .i64 m.a) := cell_of_blk hq9
    have y5 : w9.cell? ⟨gA, 5, none⟩ = some (.int .i64 m.p) := cell_of_blk hq9
    have y6 : w9.cell? ⟨gA, 6, none⟩ = some (.int .i64 m.q) := cell_of_blk hq9
    have y7 : w9.cell? ⟨gA, 7, none⟩ = some (.int .i64 m.n) := cell_of_blk hq9
    have y8 : w9.cell? ⟨gA, 8, none⟩ = some (.int .i64 m.e) := cell_of_blk hq9
    have y9 : w9.cell? ⟨gA, 9, none⟩ = some (.int .i64 m.r) := cell_of_blk hq9
    have y10 : w9.cell? ⟨gA, 10, none⟩ = some (.slice A1 ls1 c1) := cell_of_blk hq9
    have y11 : w9.cell? ⟨gA, 11, none⟩ = some (.slice A2 lp1 c2) := cell_of_blk hq9
    clear hw9 hq9 l0 r0 z0 l1 r1 z1 l2 r2 z2 l3 r3 z3 l4 r4 z4 l5 r5 z5 l6 r6 z6 l7 r7 z7 l8 r8 z8 l9 r9 z9 l10 r10 z10 l11 r11 z11
    have hgl := HGLT.out
    have hZlt := HN.out.zlt
    have hs3 := HR3.out.2.size
    have hs9 := hc9.size
    have hsAB := HAB.out.size
    have HF := Aside0.mk (And.intro (HR3.out.1.step (T := fun k => k = gA) (Z' := Z) hc9 (fun k hk e => ⟨.inr e, by omega⟩) HN.out.zg (fun k hk => by have := hZlt k hk; omega) (fun k _ h => .inl h)) (((Ch.of_below HAB.out (fun k => k = gR)).trans HR3.out.2 (fun _ _ h => h)).trans hc9 (fun k hk e => by omega)))
    clear hZlt hs3 hs9 hsAB
    clear hc9 hgl
    refine bodyPost_ret (v := .tuple #[.agg #[.int .i64 fr, .int .i64 dst, .int .i64 m.k, .int .i64 m.s, .int .i64 m.a, .int .i64 m.p, .int .i64 m.q, .int .i64 m.n, .int .i64 m.e, .int .i64 m.r, .slice A1 ls1 c1, .slice A2 lp1 c2], .bool true]) ?_ rfl ⟨rfl, ⟨C2, e2, HF.out.1⟩, HF.out.2⟩
    simp [results, Try.results16, go_sem, *]
end Go.Proofs.Ytkgbcoijkmlmnaa.K
