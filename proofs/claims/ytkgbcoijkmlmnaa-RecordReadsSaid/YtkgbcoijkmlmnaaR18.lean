/- The records that bytes begin with are read: the document's. WRITTEN BY wip/gen_refread.py. -/
import Derived.Test.YtkgbcoijkmlmnaaR17
set_option linter.unusedVariables false
set_option linter.unusedSimpArgs false
set_option maxRecDepth 100000
namespace Go.Proofs.Ytkgbcoijkmlmnaa.K
open Go.RowKit Go.Proofs.YtkgbcoijkmlmnaaW.PrintWords Go.Proofs.YtkgbcoijkmlmnaaW.PrintLast Go.Proofs.YtkgbcoijkmlmnaaW.PrintMore Go.Proofs.Ytkgbcoijkmlmnaa.U Go.Proofs.Ytkgbcoijkmlmnaa.T

theorem one_size {l : List Int} {x : RecD} {n : Nat} (h : oneR l = some (x, n)) : 8 ≤ n ∧ n ≤ l.length := by
  obtain ⟨h1, h2⟩ := rdText_pT l 0 (Nat.zero_le _) (rdText l 0) rfl
  rw [List.drop_zero] at h1 h2
  unfold oneR at h
  cases hq : (rdText l 0).2.2 with
  | false =>
    have hp := h1 hq
    rw [hp] at h
    cases h
  | true =>
    obtain ⟨⟨r, hp⟩, _, h3⟩ := h2 hq
    rw [hp] at h
    simp only at h
    cases hr : parseRec (bytesOf (rdText l 0).1) with
    | none => rw [hr] at h; cases h
    | some y =>
      rw [hr] at h
      simp only [Option.map_some] at h
      injection h with h
      injection h with _ h
      omega
set_option maxHeartbeats 6400000 in
theorem refRead (A0 : Option Addr) (c0 : Nat) (l : List Int) (w : World) (hr0 : Kd.C (Kd.int .u8) w A0 l.length l) (hc0 : l.length ≤ c0) (hl : l.length ≤ 1000000) (hok : OkB l) :
    Calls Try.prog 28 #[.slice A0 l.length c0] w fun e w' => ∃ v n zs ow, e = .returned (.tuple #[v, .int .i64 ((n : Nat) : Int)]) ∧ RListP w' w.heap.size v zs ow ∧ Aside0 (ReadF l (zs.map (·.x)) n) ∧ Below w.heap.size w w' := by
  have HR0 := Aside0.mk hr0
  have HOK := Aside0.mk hok
  have hu := Try.underlying64
  clear hr0 hok
  go_enter Try.func28, Try.ntmps28
  go_wp2_with fail
  go_loopg [4, 5] l.length (fun kq v4 v5 w' => ∃ (n k : Nat) (A : Option Addr) (c : Nat), n + kq = l.length ∧ v5 = .int .i64 n ∧ v4 = .slice A k c ∧ Aside0 (∃ zs ow, RListP w' w.heap.size (.slice A k c) zs ow ∧ zs.length = k ∧ (∃ j, stR l j = some (zs.map (·.x), n)) ∧ k ≤ n) ∧ Aside0 (Below w.heap.size w w'))
  case atStart => exact ⟨0, 0, none, 0, by omega, rfl, rfl, ⟨[], fun _ => none, ⟨Own.nil kRR _ w _, fun j h => by simp at h, fun j h => by simp at h, fun k _ => rfl, fun k h => absurd rfl h⟩, rfl, ⟨0, rfl⟩, Nat.le_refl _⟩, ⟨Below.refl _ _⟩⟩
  case round =>
    obtain ⟨n, k, A, c, hn, rfl, rfl, HZ, HB⟩ := hrel
    have hnl : n ≤ l.length := by omega
    obtain ⟨iu, hiu, _, hisz, _⟩ := info3 info_u8
    obtain ⟨A', hcut, hA'⟩ := print_cut_of (P := Try.prog) (Value.int .u8) (0 : Int) 52 5 .i64 Try.underlying52 hiu hisz A0 l.length c0 n hnl
    have hdl : (l.drop n).length = l.length - n := List.length_drop
    have HONE : Aside0 (Calls Try.prog 51 #[.slice A' (l.length - n) (c0 - n)] wr fun e w' => OneTo wr w' (l.drop n) e) := ⟨by
      have hC : Kd.C (Kd.int .u8) wr A' (l.length - n) (l.drop n) := Kd.C_of_reads (hA' wr l hc0 (Kd.reads_of_C (enc := Value.int .u8) (d := (0 : Int)) (h1 := fun _ => rfl) (Kd.C_below HR0.out HB.out)))
      rw [← hdl] at hC ⊢
      exact refOne A' (c0 - n) (l.drop n) wr hC (by omega) (by omega) (fun x hx => HOK.out x (List.mem_of_mem_drop hx))⟩
    have hnI : (0 : Int) ≤ (n : Int) := by omega
    have hnI2 : (n : Int) ≤ l.length := by omega
    clear hiu hisz hA' hdl
    go_wp2_with fail
    refine HONE.out.mono ?_
    rintro e w2 ⟨x, sv, pv, n9, ⟨rfl, hone, hs, hp, hb2⟩ | ⟨rfl, hone, hb2⟩⟩
    case inr =>
      have HNO := Aside0.mk hone
      have HB2 := Aside0.mk hb2
      clear hone hb2
      simp only [recV]
      go_wp2_with fail
      go_ret2
      obtain ⟨zs, ow, h1, h2, ⟨j, h3⟩, h4⟩ := HZ.out
      have hbz : ∀ o, Below wr.heap.size wr (w2.alloc o) := fun o => HB2.out.alloc HB2.out.size o
      exact ⟨_, n, zs, ow, rfl, h1.below (hbz _), ⟨⟨j, h3, HNO.out⟩⟩, two_andj _ _ _ HB.out (hbz _)⟩
    obtain ⟨hn8, hn9⟩ := one_size hone
    rw [List.length_drop] at hn9
    obtain ⟨B1, d1, rfl, hle1, hC1⟩ := hs.reads
    obtain ⟨B2, d2, rfl, hle2, hC2⟩ := hp.reads
    have HOWN := Aside0.mk (And.intro hs hp)
    have HONE2 := Aside0.mk hone
    obtain ⟨n1, hn1⟩ : ∃ n, n = x.set.length := ⟨_, rfl⟩
    obtain ⟨n2, hn2⟩ : ∃ n, n = x.prs.length := ⟨_, rfl⟩
    rw [← hn1, ← hn2]
    obtain ⟨gX, hgX⟩ : ∃ gX, gX = w2.heap.size := ⟨_, rfl⟩
    obtain ⟨wX, hwX⟩ : ∃ wX, wX = w2.alloc (.cells #[.int .i64 x.k, .int .i64 x.p, .int .i64 x.s, .int .i64 x.a, .int .i64 x.r, .slice B1 n1 d1, .slice B2 n2 d2] 64) := ⟨_, rfl⟩
    have hbX : Below w2.heap.size w2 wX := by rw [hwX]; exact (Below.refl _ _).alloc (Nat.le_refl _) _
    have hkX : wX.heap[gX]? = some (.cells (rawR x (.slice B1 n1 d1) (.slice B2 n2 d2)).toArray 64 (0, 0)) := by rw [hwX, hgX]; exact alloc_at w2 _
    have HNN := Aside0.mk (And.intro hn1 hn2)
    have HBR := Aside0.mk (And.intro hb2 hbX)
    have HKX := Aside0.mk hkX
    have HWX := Aside0.mk (And.intro hwX hgX)
    have hww : IntKind.i64.wrap ((n : Int) + (n9 : Int)) = (n : Int) + (n9 : Int) := IntWalk.i64_in _ (by omega)
    clear hs hp hle1 hle2 hC1 hC2 hn1 hn2 hgX hwX hbX hb2 hone HONE hcut
    simp only [recV]
    go_upto_region 4 with (fail)
    rw [← HWX.out.2, ← HWX.out.1]
    clear hkX
    have hkX := HKX.out
    obtain ⟨zs, ow, hz, hzl, hzs, hzn⟩ := HZ.out
    obtain ⟨w3, hw3⟩ : ∃ w3, w3 = wX.alloc (.cells #[.int .i64 x.k, .int .i64 x.p, .int .i64 x.s, .int .i64 x.a, .int .i64 x.r, .slice B1 n1 d1, .slice B2 n2 d2] 64) := ⟨_, rfl⟩
    have hb3 : Below wX.heap.size wX w3 := by rw [hw3]; exact (Below.refl _ _).alloc (Nat.le_refl _) _
    have hr3 : w3.heap[wX.heap.size]? = some (.cells (rawRZ ⟨x, .slice B1 x.set.length d1, .slice B2 x.prs.length d2⟩).toArray 64 (0, 0)) := by rw [hw3, HNN.out.1, HNN.out.2]; exact alloc_at wX _
    have HR3 := Aside0.mk (rs_C w3 ⟨x, .slice B1 x.set.length d1, .slice B2 x.prs.length d2⟩ rfl rfl hr3)
    have hb23 := two_andj _ _ _ HBR.out.2 hb3
    have hbr3 := two_andj _ _ _ HBR.out.1 hb23
    have HO3 := Aside0.mk (hz.row.below hbr3)
    have HB3 := Aside0.mk (two_andj _ _ _ HB.out hbr3)
    have HB23 := Aside0.mk hb23
    have HZZ := Aside0.mk (And.intro hz (And.intro hzl (And.intro hzs hzn)))
    have HW3 := Aside0.mk hw3
    have hbs : w.heap.size ≤ w3.heap.size := HB3.out.size
    have u0 : wX.cell? ⟨gX, 0, none⟩ = some (.int .i64 x.k) := cell_of_blk hkX
    have u1 : wX.cell? ⟨gX, 1, none⟩ = some (.int .i64 x.p) := cell_of_blk hkX
    have u2 : wX.cell? ⟨gX, 2, none⟩ = some (.int .i64 x.s) := cell_of_blk hkX
    have u3 : wX.cell? ⟨gX, 3, none⟩ = some (.int .i64 x.a) := cell_of_blk hkX
    have u4 : wX.cell? ⟨gX, 4, none⟩ = some (.int .i64 x.r) := cell_of_blk hkX
    have u5 : wX.cell? ⟨gX, 5, none⟩ = some (.slice B1 n1 d1) := cell_of_blk hkX
    have u6 : wX.cell? ⟨gX, 6, none⟩ = some (.slice B2 n2 d2) := cell_of_blk hkX
    clear hkX hb3 hr3 hb23 hbr3 hw3 hz hzl hzs hzn
    have HSN : Aside0 (∀ v4 w6, Own kRR 64 w6 w.heap.size v4 (zs ++ [⟨x, .slice B1 x.set.length d1, .slice B2 x.prs.length d2⟩]) → w3.grownBy w6 (Value.slice A k c).ownBlock → (∀ j, v4.ownBlock = some j → (Value.slice A k c).ownBlock = some j ∨ w3.heap.size ≤ j) → ∃ A4 c4, v4 = .slice A4 (k + 1) c4 ∧ Aside0 (∃ ow4, RListP w6 w.heap.size (.slice A4 (k + 1) c4) (zs ++ [⟨x, .slice B1 x.set.length d1, .slice B2 x.prs.length d2⟩]) ow4) ∧ Aside0 (Below w.heap.size w w6)) := ⟨fun v4 w6 hv4 hg4 hat4 => by
      obtain ⟨A4, c4, rfl, _, _⟩ := hv4.reads
      obtain ⟨ow4, hL4⟩ := HZZ.out.1.snoc (Below.refl _ _) HBR.out.1 HB23.out HB.out.size HOWN.out.1 HOWN.out.2 hv4 hg4 hat4
      have hl4 : (zs ++ [(⟨x, .slice B1 x.set.length d1, .slice B2 x.prs.length d2⟩ : RecZ)]).length = k + 1 := by rw [List.length_append, HZZ.out.2.1]; rfl
      rw [hl4] at hL4 ⊢
      exact ⟨A4, c4, rfl, ⟨ow4, hL4⟩, ⟨Below.ch HB3.out (Ch.of_grown (S := fun j => (Value.slice A k c).ownBlock = some j) hg4 (fun j hj => hj)) hbs (fun j hj => HO3.out.base_ j hj)⟩⟩⟩
    have hk88 : (zs.length + 1) * 88 ≤ 140737488355328 := by have h1 := HZZ.out.2.1; have h2 := HZZ.out.2.2.2; omega
    have HK88 := Aside0.mk hk88
    clear hk88
    go_wp2_with (rw [← HW3.out]; at_builtin; refine wpList_app_own flat_RR w.heap.size rfl _ _ 54 64 _ 88 rfl Try.underlying54 info_rec rfl (by decide) (by decide) (.slice A k c) zs [⟨x, .slice B1 x.set.length d1, .slice B2 x.prs.length d2⟩] (some ⟨wX.heap.size, 0, none⟩) 1 1 rfl rfl HO3.out rfl HR3.out hbs HK88.out ?_; intro v4 w6 hv4 hg4 hat4; obtain ⟨A4, c4, rfl, HL4, HB4⟩ := HSN.out v4 w6 hv4 hg4 hat4; clear hv4 hg4 hat4)
    go_roundg (l.length - (n + n9))
    case measure => omega
    case rel =>
      refine ⟨n + n9, k + 1, A4, c4, by omega, by go_num, rfl, ⟨_, _, HL4.out.choose_spec, by rw [List.length_append, HZZ.out.2.1]; rfl, ?_, ?_⟩, HB4⟩
      · obtain ⟨j, hj⟩ := HZZ.out.2.2.1
        exact ⟨j + 1, by rw [stR, hj, List.map_append]; simp only []; rw [HONE2.out]; simp⟩
      · have := HZZ.out.2.2.2
        omega
end Go.Proofs.Ytkgbcoijkmlmnaa.K
