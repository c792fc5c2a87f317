/- job.Own. WRITTEN BY wip/gen_y18.py. -/
import Derived.Test.YtbnhhlahbhjogaaYL
set_option linter.unusedVariables false
set_option linter.unusedSimpArgs false
set_option maxRecDepth 100000
namespace Go.Proofs.Ytbnhhlahbhjogaa.K
open Go.RowKit Go.Proofs.YtbnhhlahbhjogaaW.PrintWords Go.Proofs.YtbnhhlahbhjogaaW.PrintLast Go.Proofs.YtbnhhlahbhjogaaW.PrintMore Go.Proofs.Ytbnhhlahbhjogaa.U Go.Proofs.Ytbnhhlahbhjogaa.T

set_option maxHeartbeats 12800000 in
theorem jobOwn (c : CfgD) (h : CfH) (w : World) (hj : JobH w c.job h) (hm : CfgMay c) :
    Calls Try.prog 41 #[.agg #[.slice h.A1 c.job.splits.length h.c1, .int .i64 c.job.parts, .slice h.A2 c.job.map.length h.c2, .slice h.A3 c.job.combine.length h.c3, .slice h.A4 c.job.reduce.length h.c4, .int .i64 c.job.chunk, .int .i64 c.job.window, .int .i64 c.job.fuel, .slice h.A5 c.job.marks.length h.c5, .int .i64 c.workers, .int .i64 c.tries, .int .i64 c.timeout]] w fun e w' => ∃ h' : CfH, e = .returned (.agg #[.slice h'.A1 c.job.splits.length h'.c1, .int .i64 c.job.parts, .slice h'.A2 c.job.map.length h'.c2, .slice h'.A3 c.job.combine.length h'.c3, .slice h'.A4 c.job.reduce.length h'.c4, .int .i64 c.job.chunk, .int .i64 c.job.window, .int .i64 c.job.fuel, .slice h'.A5 c.job.marks.length h'.c5, .int .i64 c.workers, .int .i64 c.tries, .int .i64 c.timeout]) ∧ JobR w' c.job h' (fun i => w.heap.size ≤ i ∧ i < w'.heap.size) ∧ Below w.heap.size w w' := by
  obtain ⟨⟨sp, parts, mp, cb, rd_, ck, wn, fu, mk⟩, wk, tr, tmo⟩ := c
  obtain ⟨A1, A2, A3, A4, A5, c1, c2, c3, c4, c5⟩ := h
  unfold JobH at hj
  dsimp only at hj ⊢
  have hns1 : 1 ≤ sp.length ∧ sp.length ≤ 6 := ⟨by have := hm.job.splits.1; dsimp only at this; omega, by have := hm.job.splits.2; dsimp only at this; omega⟩
  have hL : ∀ l ∈ sp, l.length ≤ 100000000 := fun l hl => by have := (hm.job.each l hl).1; omega
  have hl2 : mp.length ≤ 100000000 := by have := hm.job.map.2.1; dsimp only at this; omega
  have hl3 : cb.length ≤ 100000000 := by have := hm.job.combine.1; dsimp only at this; omega
  have hl4 : rd_.length ≤ 100000000 := by have := hm.job.reduce.2.1; dsimp only at this; omega
  have hl5 : mk.length ≤ 100000000 := by have := hm.job.marks4; dsimp only at this; omega
  obtain ⟨hs, hhl, hC, hH⟩ := rows_hd hj.s
  obtain ⟨ns, hns⟩ : ∃ n, n = sp.length := ⟨_, rfl⟩
  obtain ⟨n2, hn2⟩ : ∃ n, n = mp.length := ⟨_, rfl⟩
  obtain ⟨n3, hn3⟩ : ∃ n, n = cb.length := ⟨_, rfl⟩
  obtain ⟨n4, hn4⟩ : ∃ n, n = rd_.length := ⟨_, rfl⟩
  obtain ⟨n5, hn5⟩ : ∃ n, n = mk.length := ⟨_, rfl⟩
  have hmx : ns ≤ 9223372036854775807 := by omega
  have HSL : Aside0 (hs.length = ns) := ⟨by rw [hhl, hns]⟩
  obtain ⟨g, hg⟩ : ∃ g, g = w.heap.size := ⟨_, rfl⟩
  obtain ⟨w0, hw0⟩ : ∃ w0, w0 = (w.alloc (.cells #[.slice A1 ns c1, .int .i64 parts, .slice A2 n2 c2, .slice A3 n3 c3, .slice A4 n4 c4, .int .i64 ck, .int .i64 wn, .int .i64 fu, .slice A5 n5 c5, .int .i64 wk, .int .i64 tr, .int .i64 tmo] 28)).alloc (.cells #[.slice none 0 0, .int .i64 0, .slice none 0 0, .slice none 0 0, .slice none 0 0, .int .i64 0, .int .i64 0, .int .i64 0, .slice none 0 0, .int .i64 0, .int .i64 0, .int .i64 0] 28) := ⟨_, rfl⟩
  have hb0 : Below w.heap.size w w0 := by rw [hw0]; exact ((Below.refl _ _).alloc (Nat.le_refl _) _).alloc (by simp) _
  have hgs : w0.heap.size = g + 2 := by rw [hw0, hg]; simp
  have hg0 : w0.heap[g]? = some (.cells ([.slice A1 ns c1, .int .i64 parts, .slice A2 n2 c2, .slice A3 n3 c3, .slice A4 n4 c4, .int .i64 ck, .int .i64 wn, .int .i64 fu, .slice A5 n5 c5, .int .i64 wk, .int .i64 tr, .int .i64 tmo] : List Value).toArray 28 (0, 0)) := by rw [hw0, hg]; exact alloc_keeps (alloc_at w _) _
  have hz0 : w0.heap[g + 1]? = some (.cells ([.slice none 0 0, .int .i64 0, .slice none 0 0, .slice none 0 0, .slice none 0 0, .int .i64 0, .int .i64 0, .int .i64 0, .slice none 0 0, .int .i64 0, .int .i64 0, .int .i64 0] : List Value).toArray 28 (0, 0)) := by
    have := alloc_at (w.alloc (.cells #[.slice A1 ns c1, .int .i64 parts, .slice A2 n2 c2, .slice A3 n3 c3, .slice A4 n4 c4, .int .i64 ck, .int .i64 wn, .int .i64 fu, .slice A5 n5 c5, .int .i64 wk, .int .i64 tr, .int .i64 tmo] 28)) (.cells #[.slice none 0 0, .int .i64 0, .slice none 0 0, .slice none 0 0, .slice none 0 0, .int .i64 0, .int .i64 0, .int .i64 0, .slice none 0 0, .int .i64 0, .int .i64 0, .int .i64 0] 28)
    rw [hw0, hg]
    simpa using this
  have HC1 := Aside0.mk (cloneR A1 c1 hs w0 (Kd.C_below hC hb0) (by rw [HSL.out]; omega))
  rw [HSL.out] at HC1
  have k0 : w0.cell? ⟨g, 0, none⟩ = some (.slice A1 ns c1) := cell_of_blk hg0
  have HJ := Aside0.mk hj
  have HH := Aside0.mk hH
  have HL := Aside0.mk hL
  have HL2 := Aside0.mk hl2
  have HL3 := Aside0.mk hl3
  have HL4 := Aside0.mk hl4
  have HL5 := Aside0.mk hl5
  have HN1 := Aside0.mk hns
  have HN2 := Aside0.mk hn2
  have HN3 := Aside0.mk hn3
  have HN4 := Aside0.mk hn4
  have HN5 := Aside0.mk hn5
  have HB0 := Aside0.mk hb0
  have HG0 := Aside0.mk hg0
  have HZ0 := Aside0.mk hz0
  have HG := Aside0.mk hg
  have HGS := Aside0.mk hgs
  have HW0 := Aside0.mk hw0
  have HNS : Aside0 (1 ≤ ns) := ⟨by omega⟩
  have huc := Try.underlying28
  have huj := Try.underlying26
  rw [← hns, ← hn2, ← hn3, ← hn4, ← hn5]
  clear hj hm hns1 hL hl2 hl3 hl4 hl5 hC hH hhl hns hn2 hn3 hn4 hn5 hb0 hg0 hz0 hg hgs hw0
  go_enter Try.func41, Try.ntmps41
  go_upto_region 1 with (fail)
  rw [show (w.alloc (.cells #[.slice A1 ns c1, .int .i64 parts, .slice A2 n2 c2, .slice A3 n3 c3, .slice A4 n4 c4, .int .i64 ck, .int .i64 wn, .int .i64 fu, .slice A5 n5 c5, .int .i64 wk, .int .i64 tr, .int .i64 tmo] 28)).alloc (.cells #[.slice none 0 0, .int .i64 0, .slice none 0 0, .slice none 0 0, .slice none 0 0, .int .i64 0, .int .i64 0, .int .i64 0, .slice none 0 0, .int .i64 0, .int .i64 0, .int .i64 0] 28) = w0 from HW0.out.symm, ← HG.out]
  go_wp2_with fail
  refine HC1.out.mono ?_
  rintro e w1 ⟨v, rfl, hO, hb1⟩
  obtain ⟨gr, cr, rfl, hbr, hrl, _⟩ := Kd.R_form hO (by rw [HSL.out]; have := HNS.out; omega)
  rw [HSL.out] at hO ⊢
  have hg1 := (hb1.block g (blk_lt' HG0.out)).trans HG0.out
  have hz1 := (hb1.block (g + 1) (blk_lt' HZ0.out)).trans HZ0.out
  have k1 : w1.cell? ⟨g, 0, none⟩ = some (.slice A1 ns c1) := cell_of_blk hg1
  have z1 : w1.frozen? ⟨g, 0, none⟩ = false := frozen_of_blk hg1
  obtain ⟨w2, hw2⟩ : ∃ w2, w2 = w1.setCell ⟨g, 0, none⟩ (.slice (some ⟨gr, 0, none⟩) ns cr) := ⟨_, rfl⟩
  have hc2 : Ch w1 w2 (fun i => i = g) := by rw [hw2]; exact (Ch.refl w1 (fun i => i = g)).setCell _ _ rfl
  have hg2 : w2.heap[g]? = some (.cells ([.slice (some ⟨gr, 0, none⟩) ns cr, .int .i64 parts, .slice A2 n2 c2, .slice A3 n3 c3, .slice A4 n4 c4, .int .i64 ck, .int .i64 wn, .int .i64 fu, .slice A5 n5 c5, .int .i64 wk, .int .i64 tr, .int .i64 tmo] : List Value).toArray 28 (0, 0)) := by rw [hw2]; exact setCell_blk hg1 _
  have hgr : g + 2 ≤ gr := by have := HGS.out; omega
  have HW2 := Aside0.mk hw2
  have HG2 := Aside0.mk hg2
  have HZ2 : Aside0 (w2.heap[g + 1]? = some (.cells ([.slice none 0 0, .int .i64 0, .slice none 0 0, .slice none 0 0, .slice none 0 0, .int .i64 0, .int .i64 0, .int .i64 0, .slice none 0 0, .int .i64 0, .int .i64 0, .int .i64 0] : List Value).toArray 28 (0, 0))) := ⟨hc2.blk hz1 (by omega)⟩
  have HO2 : Aside0 (Own kHd 43 w2 (g + 2) (.slice (some ⟨gr, 0, none⟩) ns cr) hs) := ⟨by
    have := Own.ch flat_hd hO hc2 (fun i hi (e : i = g) => by injection hi with hi; have hi' : gr = i := hi; omega)
    rw [HGS.out] at this
    exact this⟩
  have HB2 : Aside0 (Below w.heap.size w w2) := ⟨Below.ch (below_then HB0.out HB0.out.size hb1) hc2 (Nat.le_trans HB0.out.size hb1.size) (fun i e => by have := HG.out; omega)⟩
  have HGR : Aside0 (g + 2 ≤ gr ∧ gr < w2.heap.size) := ⟨hgr, Nat.lt_of_lt_of_le hrl hc2.size⟩
  have k2 : w2.cell? ⟨g, 0, none⟩ = some (.slice (some ⟨gr, 0, none⟩) ns cr) := cell_of_blk hg2
  clear hO hb1 hbr hrl hg1 hz1 hw2 hc2 hg2 hgr k0
  go_wp2_with fail
  rw [show w1.setCell ⟨g, 0, none⟩ (.slice (some ⟨gr, 0, none⟩) ns cr) = w2 from HW2.out.symm]
  clear k1 z1
  go_loopg [3, 4, 15] ns (fun kq v3 v4 v15 w' => ∃ (k : Nat) (hk : List Hd), k + kq = ns ∧ v15 = .int .i64 k ∧ Aside0 (Own kHd 43 w' (g + 2) (.slice (some ⟨gr, 0, none⟩) ns cr) hk) ∧ Aside0 (hk.length = ns) ∧ Aside0 (∀ j, k ≤ j → hk[j]? = hs[j]?) ∧ Aside0 (∀ j (h1 : j < hk.length) (h2 : j < sp.length), j < k → Own kPair 113 w' w2.heap.size (hdV hk[j]) sp[j]) ∧ Aside0 (w'.heap[g]? = some (.cells ([.slice (some ⟨gr, 0, none⟩) ns cr, .int .i64 parts, .slice A2 n2 c2, .slice A3 n3 c3, .slice A4 n4 c4, .int .i64 ck, .int .i64 wn, .int .i64 fu, .slice A5 n5 c5, .int .i64 wk, .int .i64 tr, .int .i64 tmo] : List Value).toArray 28 (0, 0))) ∧ Aside0 (w'.heap[g + 1]? = some (.cells ([.slice none 0 0, .int .i64 0, .slice none 0 0, .slice none 0 0, .slice none 0 0, .int .i64 0, .int .i64 0, .int .i64 0, .slice none 0 0, .int .i64 0, .int .i64 0, .int .i64 0] : List Value).toArray 28 (0, 0))) ∧ Aside0 (Below w.heap.size w w') ∧ Aside0 (w2.heap.size ≤ w'.heap.size))
  case atStart => exact ⟨0, hs, by omega, rfl, HO2, HSL, ⟨fun _ _ => rfl⟩, ⟨fun _ _ _ h => absurd h (Nat.not_lt_zero _)⟩, HG2, HZ2, HB2, ⟨Nat.le_refl _⟩⟩
  case round =>
    obtain ⟨k, hk, hkq, rfl, HO, HKL, HTL, HOW, HGB, HZB, HB, HSZ⟩ := hrel
    by_cases hlt : k < ns
    · have hltI : (k : Int) < ns := by omega
      have hk0 : (0 : Int) ≤ (k : Int) := by omega
      have hkl : k < hk.length := by rw [HKL.out]; exact hlt
      have hkh : k < hs.length := by rw [HSL.out]; exact hlt
      have hks : k < sp.length := by rw [← HN1.out]; exact hlt
      have he : hk[k] = hs[k] := by
        have := HTL.out k (Nat.le_refl _)
        rw [List.getElem?_eq_getElem hkl, List.getElem?_eq_getElem hkh] at this
        injection this
      obtain ⟨hn, hCk⟩ := HH.out k hkh hks
      obtain ⟨⟨Ak, nk, ck_⟩, hx⟩ : ∃ x, x = hs[k] := ⟨_, rfl⟩
      rw [← hx] at hn hCk he
      dsimp only at hn hCk
      obtain ⟨hcx, hfx⟩ := hd_at HO.out k hkl
      rw [he] at hcx
      have hcx' : wr.cell? ⟨gr, k, none⟩ = some (.slice Ak nk ck_) := hcx
      have hP : (⟨gr, 0, none⟩ : Addr).add k = ⟨gr, k, none⟩ := by rw [add_plain]
      have kg : wr.cell? ⟨g, 0, none⟩ = some (.slice (some ⟨gr, 0, none⟩) ns cr) := cell_of_blk HGB.out
      have hh0 : HeldN wr wr := Below.refl _ _
      have hhd : ∀ w', HeldN wr w' → HeldN wr w'.drew := fun w' h => h.then_ (below_drew w')
      have HST : Aside0 (∀ (w' : World) (x : Value), w'.cell? ⟨g, 0, none⟩ = some (.slice (some ⟨gr, 0, none⟩) ns cr) → (w'.setCell ⟨gr, k, none⟩ x).cell? ⟨g, 0, none⟩ = some (.slice (some ⟨gr, 0, none⟩) ns cr)) := ⟨fun w' x h => (World.cell?_setCell_far w' ⟨gr, k, none⟩ ⟨g, 0, none⟩ x (by have := HGR.out; show gr ≠ g; omega)).trans h⟩
      have HK0 : Aside0 (∀ w', HeldN wr w' → w'.cell? ⟨g, 0, none⟩ = some (.slice (some ⟨gr, 0, none⟩) ns cr)) := ⟨fun w' hw => (Ch.of_below hw (fun _ => False)).cell kg (fun h => h)⟩
      have HK1 : Aside0 (∀ w', HeldN wr w' → w'.cell? ⟨gr, k, none⟩ = some (.slice Ak nk ck_) ∧ w'.frozen? ⟨gr, k, none⟩ = false) := ⟨fun w' hw => ⟨(Ch.of_below hw (fun _ => False)).cell hcx' (fun h => h), (hd_at (Own.below HO.out hw) k hkl).2⟩⟩
      have HSK : Aside0 (sp[k].length = nk) := ⟨hn.symm⟩
      have HCL : Aside0 (∀ w', HeldN wr w' → Calls Try.prog 66 #[.slice Ak nk ck_] w' fun e w'' => ∃ B d, e = .returned (.slice B nk d) ∧ w''.cell? ⟨g, 0, none⟩ = some (.slice (some ⟨gr, 0, none⟩) ns cr) ∧ (w''.cell? ⟨gr, k, none⟩ = some (.slice Ak nk ck_) ∧ w''.frozen? ⟨gr, k, none⟩ = false) ∧ Aside0 (Own kPair 113 w'' w2.heap.size (.slice B nk d) sp[k] ∧ HeldN wr w'')) := ⟨fun w' hw => by
        have h1 := cloneP Ak ck_ sp[k] w' (Kd.C_below (Kd.C_below hCk HB.out) hw) (HL.out _ (List.getElem_mem hks))
        rw [HSK.out] at h1
        refine h1.mono ?_
        rintro e w'' ⟨v, rfl, hO', hb⟩
        obtain ⟨B, d, rfl, _, _⟩ := hO'.reads
        rw [HSK.out] at hO' ⊢
        exact ⟨B, d, rfl, HK0.out w'' (hw.then_ hb), HK1.out w'' (hw.then_ hb), ⟨hO'.lower (Nat.le_trans HSZ.out hw.size), hw.then_ hb⟩⟩⟩
      have HKS := Aside0.mk hks
      have HKK := Aside0.mk hkl
      clear hkh hx he hn hCk hcx hfx k2
      go_wp2_with fail
      go_upto_region 5 with (fail)
      go_region_held_law (fun w' => w'.cell? ⟨g, 0, none⟩ = some (.slice (some ⟨gr, 0, none⟩) ns cr)) (first | assumption | exact HK0.out _ (by first | assumption | exact hhd _ hh0) | exact HST.out _ _ (by assumption))
        (first | (go_at_call 66; ((with_reducible refine (HCL.out _ (by first | assumption | exact hhd _ hh0)).mono ?_); rintro e w5 ⟨B, d, rfl, hS5, ⟨hC5, hF5⟩, hR5⟩)))
      all_goals
        obtain ⟨w6, hw6⟩ : ∃ w6, w6 = w5.setCell ⟨gr, k, none⟩ (.slice B nk d) := ⟨_, rfl⟩
        rw [← hw6]
        have hc6 : Ch w5 w6 (fun i => i = gr) := by rw [hw6]; exact (Ch.refl w5 (fun i => i = gr)).setCell _ _ rfl
        have hb5 := hR5.out.2
        have hgr := HGR.out
        have HO6 : Aside0 (Own kHd 43 w6 (g + 2) (.slice (some ⟨gr, 0, none⟩) ns cr) (hk.set k ⟨B, nk, d⟩)) := ⟨by rw [hw6]; exact hd_put (Own.below HO.out hb5) k ⟨B, nk, d⟩⟩
        have HB6 : Aside0 (Below w.heap.size w w6) := ⟨Below.ch (below_then HB.out HB.out.size hb5) hc6 (Nat.le_trans HB.out.size hb5.size) (fun i e => by have := HG.out; omega)⟩
        have HSZ6 : Aside0 (w2.heap.size ≤ w6.heap.size) := ⟨Nat.le_trans (Nat.le_trans HSZ.out hb5.size) hc6.size⟩
        have HG6 : Aside0 (w6.heap[g]? = some (.cells ([.slice (some ⟨gr, 0, none⟩) ns cr, .int .i64 parts, .slice A2 n2 c2, .slice A3 n3 c3, .slice A4 n4 c4, .int .i64 ck, .int .i64 wn, .int .i64 fu, .slice A5 n5 c5, .int .i64 wk, .int .i64 tr, .int .i64 tmo] : List Value).toArray 28 (0, 0))) := ⟨hc6.blk ((hb5.block g (blk_lt' HGB.out)).trans HGB.out) (by omega)⟩
        have HZ6 : Aside0 (w6.heap[g + 1]? = some (.cells ([.slice none 0 0, .int .i64 0, .slice none 0 0, .slice none 0 0, .slice none 0 0, .int .i64 0, .int .i64 0, .int .i64 0, .slice none 0 0, .int .i64 0, .int .i64 0, .int .i64 0] : List Value).toArray 28 (0, 0))) := ⟨hc6.blk ((hb5.block (g + 1) (blk_lt' HZB.out)).trans HZB.out) (by omega)⟩
        have HOW6 : Aside0 (∀ j (h1 : j < (hk.set k ⟨B, nk, d⟩).length) (h2 : j < sp.length), j < k + 1 → Own kPair 113 w6 w2.heap.size (hdV (hk.set k ⟨B, nk, d⟩)[j]) sp[j]) := ⟨fun j h1 h2 h3 => by
          by_cases hjk : j = k
          · subst hjk
            rw [List.getElem_set_self]
            exact Own.ch flat_pair hR5.out.1 hc6 (fun i hi e => by have := Own.base_ hR5.out.1 i hi; omega)
          · rw [List.getElem_set_ne (by omega)]
            have h1' : j < hk.length := by rw [List.length_set] at h1; exact h1
            have hO5 := Own.below (HOW.out j h1' h2 (by omega)) hb5
            exact Own.ch flat_pair hO5 hc6 (fun i hi e => by have := Own.base_ hO5 i hi; omega)⟩
        have HTL6 : Aside0 (∀ j, k + 1 ≤ j → (hk.set k ⟨B, nk, d⟩)[j]? = hs[j]?) := ⟨fun j hj => by rw [List.getElem?_set_ne (by omega)]; exact HTL.out j (by omega)⟩
        clear hw6 hc6 hb5 hgr hS5 hC5 hF5 hcx' kg hP hh0 hhd
        go_wp2_with fail
        go_roundg (ns - (k + 1))
        case measure => omega
        case rel => exact ⟨k + 1, hk.set k ⟨B, nk, d⟩, by omega, by go_num, HO6, ⟨by rw [List.length_set]; exact HKL.out⟩, HTL6, HOW6, HG6, HZ6, HB6, HSZ6⟩
    · obtain rfl : k = ns := by omega
      clear k2 hlt
      have hh0 : HeldN wr wr := Below.refl _ _
      have hhd : ∀ w', HeldN wr w' → HeldN wr w'.drew := fun w' h => h.then_ (below_drew w')
      have HK7 : Aside0 (∀ w', HeldN wr w' → (w'.cell? ⟨g, 2, none⟩ = some (.slice A2 n2 c2) ∧ w'.cell? ⟨g, 3, none⟩ = some (.slice A3 n3 c3) ∧ w'.cell? ⟨g, 4, none⟩ = some (.slice A4 n4 c4) ∧ w'.frozen? ⟨g, 2, none⟩ = false ∧ w'.frozen? ⟨g, 3, none⟩ = false ∧ w'.frozen? ⟨g, 4, none⟩ = false)) := ⟨fun w' hw => by
        have h1 := (hw.block g (blk_lt' HGB.out)).trans HGB.out
        exact ⟨cell_of_blk h1, cell_of_blk h1, cell_of_blk h1, frozen_of_blk h1, frozen_of_blk h1, frozen_of_blk h1⟩⟩
      have HC2 : Aside0 (∀ w', HeldN wr w' → Calls Try.prog 67 #[.slice A2 n2 c2] w' fun e w'' => ∃ B d, e = .returned (.slice B n2 d) ∧ (w''.cell? ⟨g, 2, none⟩ = some (.slice A2 n2 c2) ∧ w''.cell? ⟨g, 3, none⟩ = some (.slice A3 n3 c3) ∧ w''.cell? ⟨g, 4, none⟩ = some (.slice A4 n4 c4) ∧ w''.frozen? ⟨g, 2, none⟩ = false ∧ w''.frozen? ⟨g, 3, none⟩ = false ∧ w''.frozen? ⟨g, 4, none⟩ = false) ∧ Aside0 (HeldN wr w'' ∧ HeldN w' w'' ∧ Own kIns 115 w'' wr.heap.size (.slice B n2 d) mp)) := ⟨fun w' hw => by
        have h1 := cloneN A2 c2 mp w' (Kd.C_below (Kd.C_below HJ.out.m HB.out) hw) HL2.out
        rw [← HN2.out] at h1
        refine h1.mono ?_
        rintro e w'' ⟨v, rfl, hO, hb⟩
        obtain ⟨B, d, rfl, _, _⟩ := hO.reads
        rw [← HN2.out] at hO ⊢
        exact ⟨B, d, rfl, HK7.out w'' (hw.then_ hb), ⟨hw.then_ hb, hb, hO.lower hw.size⟩⟩⟩
      have HC3 : Aside0 (∀ w', HeldN wr w' → Calls Try.prog 67 #[.slice A3 n3 c3] w' fun e w'' => ∃ B d, e = .returned (.slice B n3 d) ∧ (w''.cell? ⟨g, 2, none⟩ = some (.slice A2 n2 c2) ∧ w''.cell? ⟨g, 3, none⟩ = some (.slice A3 n3 c3) ∧ w''.cell? ⟨g, 4, none⟩ = some (.slice A4 n4 c4) ∧ w''.frozen? ⟨g, 2, none⟩ = false ∧ w''.frozen? ⟨g, 3, none⟩ = false ∧ w''.frozen? ⟨g, 4, none⟩ = false) ∧ Aside0 (HeldN wr w'' ∧ HeldN w' w'' ∧ Own kIns 115 w'' wr.heap.size (.slice B n3 d) cb)) := ⟨fun w' hw => by
        have h1 := cloneN A3 c3 cb w' (Kd.C_below (Kd.C_below HJ.out.c HB.out) hw) HL3.out
        rw [← HN3.out] at h1
        refine h1.mono ?_
        rintro e w'' ⟨v, rfl, hO, hb⟩
        obtain ⟨B, d, rfl, _, _⟩ := hO.reads
        rw [← HN3.out] at hO ⊢
        exact ⟨B, d, rfl, HK7.out w'' (hw.then_ hb), ⟨hw.then_ hb, hb, hO.lower hw.size⟩⟩⟩
      have HC4 : Aside0 (∀ w', HeldN wr w' → Calls Try.prog 67 #[.slice A4 n4 c4] w' fun e w'' => ∃ B d, e = .returned (.slice B n4 d) ∧ (w''.cell? ⟨g, 2, none⟩ = some (.slice A2 n2 c2) ∧ w''.cell? ⟨g, 3, none⟩ = some (.slice A3 n3 c3) ∧ w''.cell? ⟨g, 4, none⟩ = some (.slice A4 n4 c4) ∧ w''.frozen? ⟨g, 2, none⟩ = false ∧ w''.frozen? ⟨g, 3, none⟩ = false ∧ w''.frozen? ⟨g, 4, none⟩ = false) ∧ Aside0 (HeldN wr w'' ∧ HeldN w' w'' ∧ Own kIns 115 w'' wr.heap.size (.slice B n4 d) rd_)) := ⟨fun w' hw => by
        have h1 := cloneN A4 c4 rd_ w' (Kd.C_below (Kd.C_below HJ.out.r HB.out) hw) HL4.out
        rw [← HN4.out] at h1
        refine h1.mono ?_
        rintro e w'' ⟨v, rfl, hO, hb⟩
        obtain ⟨B, d, rfl, _, _⟩ := hO.reads
        rw [← HN4.out] at hO ⊢
        exact ⟨B, d, rfl, HK7.out w'' (hw.then_ hb), ⟨hw.then_ hb, hb, hO.lower hw.size⟩⟩⟩
      go_upto_region 7 with (fail)
      obtain ⟨S, hSd⟩ : ∃ S : Array Bool → World → Prop, S = fun l w' => (l.getD 3 true = false → w'.cell? ⟨g, 2, none⟩ = some (.slice A2 n2 c2)) ∧ (l.getD 7 true = false → w'.cell? ⟨g, 3, none⟩ = some (.slice A3 n3 c3)) ∧ (l.getD 11 true = false → w'.cell? ⟨g, 4, none⟩ = some (.slice A4 n4 c4)) := ⟨_, rfl⟩
      have hSI : ∀ i, i ≠ 3 → i ≠ 7 → i ≠ 11 → ∀ l w', S (l.setIfInBounds i true) w' ↔ S l w' := fun i h3 h7 h11 l w' => by rw [hSd]; simp only [getD_set_ne true h3, getD_set_ne true h7, getD_set_ne true h11]
      have hT2 : ∀ (l : Array Bool) (w' : World), l.getD 3 true = false → S l w' → w'.cell? ⟨g, 2, none⟩ = some (.slice A2 n2 c2) := fun l w' hl h => by rw [hSd] at h; exact h.1 hl
      have hT3 : ∀ (l : Array Bool) (w' : World), l.getD 7 true = false → S l w' → w'.cell? ⟨g, 3, none⟩ = some (.slice A3 n3 c3) := fun l w' hl h => by rw [hSd] at h; exact h.2.1 hl
      have hT4 : ∀ (l : Array Bool) (w' : World), l.getD 11 true = false → S l w' → w'.cell? ⟨g, 4, none⟩ = some (.slice A4 n4 c4) := fun l w' hl h => by rw [hSd] at h; exact h.2.2 hl
      have hSmk : ∀ (l : Array Bool) (w' : World), w'.cell? ⟨g, 2, none⟩ = some (.slice A2 n2 c2) → w'.cell? ⟨g, 3, none⟩ = some (.slice A3 n3 c3) → w'.cell? ⟨g, 4, none⟩ = some (.slice A4 n4 c4) → S l w' := fun l w' h1 h2 h3 => by rw [hSd]; exact ⟨fun _ => h1, fun _ => h2, fun _ => h3⟩
      have hSend : ∀ (l : Array Bool) (w' : World), l.getD 3 true = true → l.getD 7 true = true → l.getD 11 true = true → S l w' := fun l w' h1 h2 h3 => by rw [hSd]; exact ⟨fun h => (by rw [h1] at h; cases h), fun h => (by rw [h2] at h; cases h), fun h => (by rw [h3] at h; cases h)⟩
      obtain ⟨q2, q3, q4, y2, y3, y4⟩ := HK7.out wr.drew (hhd _ hh0)
      have hz := hhd _ hh0
      refine Rest.begin (S := S) (by kernel_rfl) ?_
      have hs : S (Array.replicate 21 false) wr.drew := hSmk _ _ q2 q3 q4
      refine Rest.take (i := 0) (v := ?_) rfl (by kernel_rfl) (by kernel_rfl) (by kernel_rfl) (fun _ _ _ h => h) (hSI 0 (by decide) (by decide) (by decide)) hs (Or.inl ⟨by rfl, ?_⟩) ?_
      rotate_left 1
      · (intro w _; go_simp; try with_reducible rfl)
      simp only [Act.put, List.setIfInBounds_toArray, List.set_cons_zero, List.set_cons_succ]
      replace hs := (hSI 0 (by decide) (by decide) (by decide) _ _).2 hs
      refine Rest.take (i := 1) (v := ?_) rfl (by kernel_rfl) (by kernel_rfl) (by kernel_rfl) (fun _ _ _ h => h) (hSI 1 (by decide) (by decide) (by decide)) hs (Or.inl ⟨by rfl, ?_⟩) ?_
      rotate_left 1
      · (intro w _; go_simp; try with_reducible rfl)
      simp only [Act.put, List.setIfInBounds_toArray, List.set_cons_zero, List.set_cons_succ]
      replace hs := (hSI 1 (by decide) (by decide) (by decide) _ _).2 hs
      refine Rest.load (i := 2) (c := 3) (v := ?_) (T := fun w' => w'.cell? ⟨g, 2, none⟩ = some (.slice A2 n2 c2)) rfl (by kernel_rfl) (by kernel_rfl) (by kernel_rfl) (fun _ _ _ h => h) (hSI 2 (by decide) (by decide) (by decide)) hs rfl (by kernel_rfl) (by kernel_rfl) hT2 (Or.inl ⟨by rfl, ?_⟩) ?_
      rotate_left 1
      · (intro w hSw; (try dsimp only at hSw); go_simp; try with_reducible rfl)
      simp only [Act.put, List.setIfInBounds_toArray, List.set_cons_zero, List.set_cons_succ]
      replace hs := (hSI 2 (by decide) (by decide) (by decide) _ _).2 hs
      refine Rest.take (i := 4) (v := ?_) rfl (by kernel_rfl) (by kernel_rfl) (by kernel_rfl) (fun _ _ _ h => h) (hSI 4 (by decide) (by decide) (by decide)) hs (Or.inl ⟨by rfl, ?_⟩) ?_
      rotate_left 1
      · (intro w _; go_simp; try with_reducible rfl)
      simp only [Act.put, List.setIfInBounds_toArray, List.set_cons_zero, List.set_cons_succ]
      replace hs := (hSI 4 (by decide) (by decide) (by decide) _ _).2 hs
      refine Rest.take (i := 5) (v := ?_) rfl (by kernel_rfl) (by kernel_rfl) (by kernel_rfl) (fun _ _ _ h => h) (hSI 5 (by decide) (by decide) (by decide)) hs (Or.inl ⟨by rfl, ?_⟩) ?_
      rotate_left 1
      · (intro w _; go_simp; try with_reducible rfl)
      simp only [Act.put, List.setIfInBounds_toArray, List.set_cons_zero, List.set_cons_succ]
      replace hs := (hSI 5 (by decide) (by decide) (by decide) _ _).2 hs
      refine Rest.load (i := 6) (c := 7) (v := ?_) (T := fun w' => w'.cell? ⟨g, 3, none⟩ = some (.slice A3 n3 c3)) rfl (by kernel_rfl) (by kernel_rfl) (by kernel_rfl) (fun _ _ _ h => h) (hSI 6 (by decide) (by decide) (by decide)) hs rfl (by kernel_rfl) (by kernel_rfl) hT3 (Or.inl ⟨by rfl, ?_⟩) ?_
      rotate_left 1
      · (intro w hSw; (try dsimp only at hSw); go_simp; try with_reducible rfl)
      simp only [Act.put, List.setIfInBounds_toArray, List.set_cons_zero, List.set_cons_succ]
      replace hs := (hSI 6 (by decide) (by decide) (by decide) _ _).2 hs
      refine Rest.take (i := 8) (v := ?_) rfl (by kernel_rfl) (by kernel_rfl) (by kernel_rfl) (fun _ _ _ h => h) (hSI 8 (by decide) (by decide) (by decide)) hs (Or.inl ⟨by rfl, ?_⟩) ?_
      rotate_left 1
      · (intro w _; go_simp; try with_reducible rfl)
      simp only [Act.put, List.setIfInBounds_toArray, List.set_cons_zero, List.set_cons_succ]
      replace hs := (hSI 8 (by decide) (by decide) (by decide) _ _).2 hs
      refine Rest.take (i := 9) (v := ?_) rfl (by kernel_rfl) (by kernel_rfl) (by kernel_rfl) (fun _ _ _ h => h) (hSI 9 (by decide) (by decide) (by decide)) hs (Or.inl ⟨by rfl, ?_⟩) ?_
      rotate_left 1
      · (intro w _; go_simp; try with_reducible rfl)
      simp only [Act.put, List.setIfInBounds_toArray, List.set_cons_zero, List.set_cons_succ]
      replace hs := (hSI 9 (by decide) (by decide) (by decide) _ _).2 hs
      refine Rest.load (i := 10) (c := 11) (v := ?_) (T := fun w' => w'.cell? ⟨g, 4, none⟩ = some (.slice A4 n4 c4)) rfl (by kernel_rfl) (by kernel_rfl) (by kernel_rfl) (fun _ _ _ h => h) (hSI 10 (by decide) (by decide) (by decide)) hs rfl (by kernel_rfl) (by kernel_rfl) hT4 (Or.inl ⟨by rfl, ?_⟩) ?_
      rotate_left 1
      · (intro w hSw; (try dsimp only at hSw); go_simp; try with_reducible rfl)
      simp only [Act.put, List.setIfInBounds_toArray, List.set_cons_zero, List.set_cons_succ]
      replace hs := (hSI 10 (by decide) (by decide) (by decide) _ _).2 hs
      clear hs
      refine Rest.one (i := 3) (by kernel_rfl) rfl ?_
      intro K hK
      rw [if_pos (by rfl)]
      go_simp
      go_at_call 67
      refine (HC2.out _ hz).mono ?_
      rintro e w5 ⟨B2, d2, rfl, ⟨q2, q3, q4, y2, y3, y4⟩, hR2⟩
      have hH2 := hR2.out.1
      refine hK.out _ _ (hSmk _ _ q2 q3 q4) ?_
      clear hK K
      refine Rest.take (i := 12) (v := ?_) rfl (by kernel_rfl) (by kernel_rfl) (by kernel_rfl) (fun _ _ _ h => h) (hSI 12 (by decide) (by decide) (by decide)) (hSmk _ _ q2 q3 q4) (Or.inl ⟨by rfl, ?_⟩) ?_
      rotate_left 1
      · (intro w _; go_simp; try with_reducible rfl)
      simp only [Act.put, List.setIfInBounds_toArray, List.set_cons_zero, List.set_cons_succ]
      refine Rest.take (i := 13) (v := ?_) rfl (by kernel_rfl) (by kernel_rfl) (by kernel_rfl) (fun _ _ _ h => h) (hSI 13 (by decide) (by decide) (by decide)) (hSmk _ _ q2 q3 q4) (Or.inl ⟨by rfl, ?_⟩) ?_
      rotate_left 1
      · (intro w _; go_simp; try with_reducible rfl)
      simp only [Act.put, List.setIfInBounds_toArray, List.set_cons_zero, List.set_cons_succ]
      refine Rest.one (i := 7) (by kernel_rfl) rfl ?_
      intro K hK
      rw [if_pos (by rfl)]
      go_simp
      go_at_call 67
      refine (HC3.out _ hH2).mono ?_
      rintro e w6 ⟨B3, d3, rfl, ⟨q2, q3, q4, y2, y3, y4⟩, hR3⟩
      have hH3 := hR3.out.1
      refine hK.out _ _ (hSmk _ _ q2 q3 q4) ?_
      clear hK K
      refine Rest.one (i := 11) (by kernel_rfl) rfl ?_
      intro K hK
      rw [if_pos (by rfl)]
      go_simp
      go_at_call 67
      refine (HC4.out _ hH3).mono ?_
      rintro e w7 ⟨B4, d4, rfl, ⟨q2, q3, q4, y2, y3, y4⟩, hR4⟩
      have hH4 := hR4.out.1
      refine hK.out _ _ (hSmk _ _ q2 q3 q4) ?_
      clear hK K
      refine Rest.one (i := 14) (by kernel_rfl) rfl ?_
      intro K hK
      rw [if_pos (by rfl)]
      go_simp
      refine hK.out _ _ (hSend _ _ (by kernel_rfl) (by kernel_rfl) (by kernel_rfl)) ?_
      clear hK K
      refine Rest.take (i := 15) (v := ?_) rfl (by kernel_rfl) (by kernel_rfl) (by kernel_rfl) (fun _ _ _ h => h) (hSI 15 (by decide) (by decide) (by decide)) (hSend _ _ (by kernel_rfl) (by kernel_rfl) (by kernel_rfl)) (Or.inl ⟨by rfl, ?_⟩) ?_
      rotate_left 1
      · (intro w _; go_simp; try with_reducible rfl)
      simp only [Act.put, List.setIfInBounds_toArray, List.set_cons_zero, List.set_cons_succ]
      refine Rest.take (i := 16) (v := ?_) rfl (by kernel_rfl) (by kernel_rfl) (by kernel_rfl) (fun _ _ _ h => h) (hSI 16 (by decide) (by decide) (by decide)) (hSend _ _ (by kernel_rfl) (by kernel_rfl) (by kernel_rfl)) (Or.inl ⟨by rfl, ?_⟩) ?_
      rotate_left 1
      · (intro w _; go_simp; try with_reducible rfl)
      simp only [Act.put, List.setIfInBounds_toArray, List.set_cons_zero, List.set_cons_succ]
      refine Rest.one (i := 17) (by kernel_rfl) rfl ?_
      intro K hK
      rw [if_pos (by rfl)]
      go_simp
      refine hK.out _ _ (hSend _ _ (by kernel_rfl) (by kernel_rfl) (by kernel_rfl)) ?_
      clear hK K
      refine Rest.take (i := 18) (v := ?_) rfl (by kernel_rfl) (by kernel_rfl) (by kernel_rfl) (fun _ _ _ h => h) (hSI 18 (by decide) (by decide) (by decide)) (hSend _ _ (by kernel_rfl) (by kernel_rfl) (by kernel_rfl)) (Or.inl ⟨by rfl, ?_⟩) ?_
      rotate_left 1
      · (intro w _; go_simp; try with_reducible rfl)
      simp only [Act.put, List.setIfInBounds_toArray, List.set_cons_zero, List.set_cons_succ]
      refine Rest.take (i := 19) (v := ?_) rfl (by kernel_rfl) (by kernel_rfl) (by kernel_rfl) (fun _ _ _ h => h) (hSI 19 (by decide) (by decide) (by decide)) (hSend _ _ (by kernel_rfl) (by kernel_rfl) (by kernel_rfl)) (Or.inl ⟨by rfl, ?_⟩) ?_
      rotate_left 1
      · (intro w _; go_simp; try with_reducible rfl)
      simp only [Act.put, List.setIfInBounds_toArray, List.set_cons_zero, List.set_cons_succ]
      refine Rest.one (i := 20) (by kernel_rfl) rfl ?_
      intro K hK
      rw [if_pos (by rfl)]
      go_simp
      refine hK.out _ _ (hSend _ _ (by kernel_rfl) (by kernel_rfl) (by kernel_rfl)) ?_
      clear hK K
      refine Rest.done (by kernel_rfl) ?_ _
      have hg7 := (hH4.block g (blk_lt' HGB.out)).trans HGB.out
      have hz7 := (hH4.block (g + 1) (blk_lt' HZB.out)).trans HZB.out
      obtain ⟨w8, hw8⟩ : ∃ w8, w8 = (((w7.setCell ⟨g, 2, none⟩ (.slice B2 n2 d2)).setCell ⟨g, 3, none⟩ (.slice B3 n3 d3)).setCell ⟨g, 4, none⟩ (.slice B4 n4 d4)) := ⟨_, rfl⟩
      rw [← hw8]
      have hc8 : Ch w7 w8 (fun i => i = g) := by rw [hw8]; exact (((Ch.refl w7 (fun i => i = g)).setCell _ _ rfl).setCell _ _ rfl).setCell _ _ rfl
      have hg8 : w8.heap[g]? = some (.cells ([.slice (some ⟨gr, 0, none⟩) k cr, .int .i64 parts, .slice B2 n2 d2, .slice B3 n3 d3, .slice B4 n4 d4, .int .i64 ck, .int .i64 wn, .int .i64 fu, .slice A5 n5 c5, .int .i64 wk, .int .i64 tr, .int .i64 tmo] : List Value).toArray 28 (0, 0)) := by rw [hw8]; exact setCell_blk (setCell_blk (setCell_blk hg7 _) _) _
      have hz8 := hc8.blk hz7 (by omega)
      have hb7 : Below w.heap.size w w7 := below_then HB.out HB.out.size hH4
      have hb8 : Below w.heap.size w w8 := Below.ch hb7 hc8 hb7.size (fun i e => by have := HG.out; omega)
      have HC5 := Aside0.mk (cloneI A5 c5 mk w8 (Kd.C_below HJ.out.k hb8) HL5.out)
      rw [← HN5.out] at HC5
      have HH4 := Aside0.mk hH4
      have HR2 := Aside0.mk hR2.out
      have HR3 := Aside0.mk hR3.out
      have HR4 := Aside0.mk hR4.out
      have HG8 := Aside0.mk hg8
      have HZ8 := Aside0.mk hz8
      have HB8 := Aside0.mk hb8
      have HC8 := Aside0.mk hc8
      have k8 : w8.cell? ⟨g, 8, none⟩ = some (.slice A5 n5 c5) := cell_of_blk hg8
      clear hg7 hz7 hw8 hc8 hg8 hz8 hb7 hb8 hH2 hH3 hH4 hR2 hR3 hR4 q2 q3 q4 y2 y3 y4 hz hh0 hhd hSd hSI hT2 hT3 hT4 hSmk hSend S
      go_wp2_with fail
      refine HC5.out.mono ?_
      rintro e w9 ⟨v, rfl, hO9, hb9⟩
      obtain ⟨B5, d5, rfl, _, _⟩ := hO9.reads
      rw [← HN5.out] at hO9 ⊢
      have hg9 := (hb9.block g (blk_lt' HG8.out)).trans HG8.out
      have hz9 := (hb9.block (g + 1) (blk_lt' HZ8.out)).trans HZ8.out
      obtain ⟨w10, hw10⟩ : ∃ w10, w10 = w9.setCell ⟨g, 8, none⟩ (.slice B5 n5 d5) := ⟨_, rfl⟩
      have hc10 : Ch w9 w10 (fun i => i = g) := by rw [hw10]; exact (Ch.refl w9 (fun i => i = g)).setCell _ _ rfl
      have hg10 : w10.heap[g]? = some (.cells ([.slice (some ⟨gr, 0, none⟩) k cr, .int .i64 parts, .slice B2 n2 d2, .slice B3 n3 d3, .slice B4 n4 d4, .int .i64 ck, .int .i64 wn, .int .i64 fu, .slice B5 n5 d5, .int .i64 wk, .int .i64 tr, .int .i64 tmo] : List Value).toArray 28 (0, 0)) := by rw [hw10]; exact setCell_blk hg9 _
      have hz10 := hc10.blk hz9 (by omega)
      have k9 : w9.cell? ⟨g, 8, none⟩ = some (.slice A5 n5 c5) := cell_of_blk hg9
      have z9 : w9.frozen? ⟨g, 8, none⟩ = false := frozen_of_blk hg9
      have HO9 := Aside0.mk hO9
      have HB9 := Aside0.mk hb9
      have HC10 := Aside0.mk hc10
      have HZ10 := Aside0.mk hz10
      have HW10 := Aside0.mk hw10
      have HG10 := Aside0.mk hg10
      clear hg9 hz9 hO9 hb9 k8 hw10 hc10 hz10 hg10
      go_upto_region 9 with (fail)
      rw [show w9.setCell ⟨g, 8, none⟩ (.slice B5 n5 d5) = w10 from HW10.out.symm]
      clear k9 z9
      have f0 : w10.cell? ⟨g, 0, none⟩ = some (.slice (some ⟨gr, 0, none⟩) k cr) := cell_of_blk HG10.out
      have f1 : w10.cell? ⟨g, 1, none⟩ = some (.int .i64 parts) := cell_of_blk HG10.out
      have f2 : w10.cell? ⟨g, 2, none⟩ = some (.slice B2 n2 d2) := cell_of_blk HG10.out
      have f3 : w10.cell? ⟨g, 3, none⟩ = some (.slice B3 n3 d3) := cell_of_blk HG10.out
      have f4 : w10.cell? ⟨g, 4, none⟩ = some (.slice B4 n4 d4) := cell_of_blk HG10.out
      have f5 : w10.cell? ⟨g, 5, none⟩ = some (.int .i64 ck) := cell_of_blk HG10.out
      have f6 : w10.cell? ⟨g, 6, none⟩ = some (.int .i64 wn) := cell_of_blk HG10.out
      have f7 : w10.cell? ⟨g, 7, none⟩ = some (.int .i64 fu) := cell_of_blk HG10.out
      have f8 : w10.cell? ⟨g, 8, none⟩ = some (.slice B5 n5 d5) := cell_of_blk HG10.out
      have f9 : w10.cell? ⟨g, 9, none⟩ = some (.int .i64 wk) := cell_of_blk HG10.out
      have f10 : w10.cell? ⟨g, 10, none⟩ = some (.int .i64 tr) := cell_of_blk HG10.out
      have f11 : w10.cell? ⟨g, 11, none⟩ = some (.int .i64 tmo) := cell_of_blk HG10.out
      have e0 : w10.cell? ⟨g + 1, 0, none⟩ = some (.slice none 0 0) := cell_of_blk HZ10.out
      have z0 : w10.frozen? ⟨g + 1, 0, none⟩ = false := frozen_of_blk HZ10.out
      have e1 : w10.cell? ⟨g + 1, 1, none⟩ = some (.int .i64 0) := cell_of_blk HZ10.out
      have z1 : w10.frozen? ⟨g + 1, 1, none⟩ = false := frozen_of_blk HZ10.out
      have e2 : w10.cell? ⟨g + 1, 2, none⟩ = some (.slice none 0 0) := cell_of_blk HZ10.out
      have z2 : w10.frozen? ⟨g + 1, 2, none⟩ = false := frozen_of_blk HZ10.out
      have e3 : w10.cell? ⟨g + 1, 3, none⟩ = some (.slice none 0 0) := cell_of_blk HZ10.out
      have z3 : w10.frozen? ⟨g + 1, 3, none⟩ = false := frozen_of_blk HZ10.out
      have e4 : w10.cell? ⟨g + 1, 4, none⟩ = some (.slice none 0 0) := cell_of_blk HZ10.out
      have z4 : w10.frozen? ⟨g + 1, 4, none⟩ = false := frozen_of_blk HZ10.out
      have e5 : w10.cell? ⟨g + 1, 5, none⟩ = some (.int .i64 0) := cell_of_blk HZ10.out
      have z5 : w10.frozen? ⟨g + 1, 5, none⟩ = false := frozen_of_blk HZ10.out
      have e6 : w10.cell? ⟨g + 1, 6, none⟩ = some (.int .i64 0) := cell_of_blk HZ10.out
      have z6 : w10.frozen? ⟨g + 1, 6, none⟩ = false := frozen_of_blk HZ10.out
      have e7 : w10.cell? ⟨g + 1, 7, none⟩ = some (.int .i64 0) := cell_of_blk HZ10.out
      have z7 : w10.frozen? ⟨g + 1, 7, none⟩ = false := frozen_of_blk HZ10.out
      have e8 : w10.cell? ⟨g + 1, 8, none⟩ = some (.slice none 0 0) := cell_of_blk HZ10.out
      have z8 : w10.frozen? ⟨g + 1, 8, none⟩ = false := frozen_of_blk HZ10.out
      have e9 : w10.cell? ⟨g + 1, 9, none⟩ = some (.int .i64 0) := cell_of_blk HZ10.out
      have z9 : w10.frozen? ⟨g + 1, 9, none⟩ = false := frozen_of_blk HZ10.out
      have e10 : w10.cell? ⟨g + 1, 10, none⟩ = some (.int .i64 0) := cell_of_blk HZ10.out
      have z10 : w10.frozen? ⟨g + 1, 10, none⟩ = false := frozen_of_blk HZ10.out
      have e11 : w10.cell? ⟨g + 1, 11, none⟩ = some (.int .i64 0) := cell_of_blk HZ10.out
      have z11 : w10.frozen? ⟨g + 1, 11, none⟩ = false := frozen_of_blk HZ10.out
      go_wp2_with fail
      obtain ⟨wE, hwE⟩ : ∃ wE, wE = wrote12 w10 (g + 1) (.slice (some ⟨gr, 0, none⟩) k cr) (.int .i64 parts) (.slice B2 n2 d2) (.slice B3 n3 d3) (.slice B4 n4 d4) (.int .i64 ck) (.int .i64 wn) (.int .i64 fu) (.slice B5 n5 d5) (.int .i64 wk) (.int .i64 tr) (.int .i64 tmo) := ⟨_, rfl⟩
      have hqE := set12 HZ10.out (.slice (some ⟨gr, 0, none⟩) k cr) (.int .i64 parts) (.slice B2 n2 d2) (.slice B3 n3 d3) (.slice B4 n4 d4) (.int .i64 ck) (.int .i64 wn) (.int .i64 fu) (.slice B5 n5 d5) (.int .i64 wk) (.int .i64 tr) (.int .i64 tmo)
      have hcE := set12_ch w10 (g + 1) (.slice (some ⟨gr, 0, none⟩) k cr) (.int .i64 parts) (.slice B2 n2 d2) (.slice B3 n3 d3) (.slice B4 n4 d4) (.int .i64 ck) (.int .i64 wn) (.int .i64 fu) (.slice B5 n5 d5) (.int .i64 wk) (.int .i64 tr) (.int .i64 tmo)
      rw [← hwE] at hqE hcE
      unfold wrote12 at hwE
      rw [← hwE]
      have y0 : wE.cell? ⟨g + 1, 0, none⟩ = some (.slice (some ⟨gr, 0, none⟩) k cr) := cell_of_blk hqE
      have y1 : wE.cell? ⟨g + 1, 1, none⟩ = some (.int .i64 parts) := cell_of_blk hqE
      have y2 : wE.cell? ⟨g + 1, 2, none⟩ = some (.slice B2 n2 d2) := cell_of_blk hqE
      have y3 : wE.cell? ⟨g + 1, 3, none⟩ = some (.slice B3 n3 d3) := cell_of_blk hqE
      have y4 : wE.cell? ⟨g + 1, 4, none⟩ = some (.slice B4 n4 d4) := cell_of_blk hqE
      have y5 : wE.cell? ⟨g + 1, 5, none⟩ = some (.int .i64 ck) := cell_of_blk hqE
      have y6 : wE.cell? ⟨g + 1, 6, none⟩ = some (.int .i64 wn) := cell_of_blk hqE
      have y7 : wE.cell? ⟨g + 1, 7, none⟩ = some (.int .i64 fu) := cell_of_blk hqE
      have y8 : wE.cell? ⟨g + 1, 8, none⟩ = some (.slice B5 n5 d5) := cell_of_blk hqE
      have y9 : wE.cell? ⟨g + 1, 9, none⟩ = some (.int .i64 wk) := cell_of_blk hqE
      have y10 : wE.cell? ⟨g + 1, 10, none⟩ = some (.int .i64 tr) := cell_of_blk hqE
      have y11 : wE.cell? ⟨g + 1, 11, none⟩ = some (.int .i64 tmo) := cell_of_blk hqE
      have HCE := Aside0.mk hcE
      clear hwE hqE hcE f0 e0 z0 f1 e1 z1 f2 e2 z2 f3 e3 z3 f4 e4 z4 f5 e5 z5 f6 e6 z6 f7 e7 z7 f8 e8 z8 f9 e9 z9 f10 e10 z10 f11 e11 z11
      have HGRO := HGR.out
      have hH47 : HeldN wr w7 := HH4.out
      have hs8 := HC8.out.size
      have hs9 := HB9.out.size
      have hs10 := HC10.out.size
      have hsE := HCE.out.size
      have hs7 := hH47.size
      have hsr := HSZ.out
      have hcWE : Ch w7 wE (fun i => i = g ∨ i = g + 1) := (((HC8.out.mono (T := fun i => i = g ∨ i = g + 1) (fun i hi => .inl hi)).trans (Ch.of_below (S := fun i => i = g ∨ i = g + 1) HB9.out) (fun _ _ h => h)).trans (HC10.out.mono (T := fun i => i = g ∨ i = g + 1) (fun i hi => .inl hi)) (fun _ _ h => h)).trans (HCE.out.mono (T := fun i => i = g ∨ i = g + 1) (fun i hi => .inr hi)) (fun _ _ h => h)
      have hcr : Ch wr wE (fun i => i = g ∨ i = g + 1) := (Ch.of_below (S := fun i => i = g ∨ i = g + 1) hH47).trans hcWE (fun _ _ h => h)
      have hc9E : Ch w9 wE (fun i => i = g ∨ i = g + 1) := (HC10.out.mono (T := fun i => i = g ∨ i = g + 1) (fun i hi => .inl hi)).trans (HCE.out.mono (T := fun i => i = g ∨ i = g + 1) (fun i hi => .inr hi)) (fun _ _ h => h)
      have HOE : Own kHd 43 wE (g + 2) (.slice (some ⟨gr, 0, none⟩) k cr) hk := Own.ch flat_hd HO.out hcr (fun i hi e => by have hi' : gr = i := (by injection hi with hi); omega)
      have hgrE : gr < wE.heap.size := Own.lt HOE gr rfl
      have hIns : ∀ {B : Option Addr} {n d : Nat} {l : List InsD}, Own kIns 115 w7 wr.heap.size (.slice B n d) l → Kd.R kIns 115 wE 0 (fun i => w.heap.size ≤ i ∧ i < wE.heap.size) (.slice B n d) l := fun {B n d l} h => by
        have h1 := Own.ch flat_insM h hcWE (fun i hi e => by have := Own.base_ h i hi; omega)
        exact Kd.R_mono (Kd.R_lower (Kd.R_bound h1) (Nat.zero_le _)) (fun i hi => ⟨by have := HB.out.size; have := hi.2.1; omega, hi.2.2.1⟩)
      have HBE : Below w.heap.size w wE := Below.ch (below_then HB.out HB.out.size hH47) hcWE (Nat.le_trans HB.out.size hs7) (fun i e => by have := HG.out; omega)
      refine bodyPost_ret (v := .agg #[.slice (some ⟨gr, 0, none⟩) k cr, .int .i64 parts, .slice B2 n2 d2, .slice B3 n3 d3, .slice B4 n4 d4, .int .i64 ck, .int .i64 wn, .int .i64 fu, .slice B5 n5 d5, .int .i64 wk, .int .i64 tr, .int .i64 tmo]) ?_ rfl ⟨⟨some ⟨gr, 0, none⟩, B2, B3, B4, B5, cr, d2, d3, d4, d5⟩, rfl, ⟨?_, ?_, ?_, ?_, ?_⟩, HBE⟩
      · simp [results, Try.results41, go_sem, *]
      · have hl : hk.length = sp.length := by rw [HKL.out, HN1.out]
        have := rows_R (ok := fun i => w.heap.size ≤ i ∧ i < wE.heap.size) (Own.lower HOE (Nat.zero_le _)) hl (fun i hi => by have hi' : gr = i := (by injection hi with hi); have := HG.out; exact ⟨by omega, by omega⟩) (fun j h1 h2 => by
          have hO5 := HOW.out j h1 h2 (by have := HKL.out; omega)
          have h1 := Own.ch flat_pair hO5 hcr (fun i hi e => by have := Own.base_ hO5 i hi; omega)
          exact Kd.R_mono (Kd.R_lower (Kd.R_bound h1) (Nat.zero_le _)) (fun i hi => ⟨⟨by have := HB2.out.size; have := hi.2.1; omega, hi.2.2.1⟩, fun e => by have e' : i = gr := (by injection e); have := hi.2.1; omega⟩))
        rw [show sp.length = k from HN1.out.symm]
        exact this
      · rw [show mp.length = n2 from HN2.out.symm]
        exact hIns (Own.below (Own.below HR2.out.2.2 HR3.out.2.1) HR4.out.2.1)
      · rw [show cb.length = n3 from HN3.out.symm]
        exact hIns (Own.below HR3.out.2.2 HR4.out.2.1)
      · rw [show rd_.length = n4 from HN4.out.symm]
        exact hIns HR4.out.2.2
      · rw [show mk.length = n5 from HN5.out.symm]
        have h1 := Own.ch (flat_int .i64) HO9.out hc9E (fun i hi e => by have := Own.base_ HO9.out i hi; omega)
        exact Kd.R_mono (Kd.R_lower (Kd.R_bound h1) (Nat.zero_le _)) (fun i hi => ⟨by have := HB8.out.size; have := hi.2.1; omega, hi.2.2.1⟩)
end Go.Proofs.Ytbnhhlahbhjogaa.K
