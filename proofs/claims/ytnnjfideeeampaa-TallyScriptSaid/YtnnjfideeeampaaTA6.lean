/- The statement TallyScript. -/
import Derived.Test.YtnnjfideeeampaaTA5
import Derived.Deep.RegionHeld3
set_option linter.unusedVariables false
set_option linter.unusedSimpArgs false
namespace Go.Proofs.Ytnnjfideeeampaa.K
open Go.RowKit Go.Proofs.YtnnjfideeeampaaW.PrintWords Go.Proofs.YtnnjfideeeampaaW.PrintLast Go.Proofs.YtnnjfideeeampaaW.PrintMore Go.Proofs.Ytnnjfideeeampaa.U Go.Proofs.Ytnnjfideeeampaa.T

/-- The document's counters as a row that is read. -/
theorem tally_row {t : TypeId} {w : World} {base g : Nat} {C : List Int} (h : TallyR t w base g C) : Kd.C (Kd.int .i64) w (some ⟨g, 0, none⟩) C.length C := by
  refine ⟨rfl, by have := h.len; omega, fun _ => ⟨_, rfl, fun j p hj => ?_⟩⟩
  obtain ⟨hj1, hj2⟩ := List.getElem?_eq_some_iff.1 hj
  refine ⟨[.int .i64 p], rfl, rfl, fun i u hu => ?_⟩
  have : i = 0 := by
    rcases Nat.eq_zero_or_pos i with h | h
    · exact h
    · rw [List.getElem?_eq_none (by show 1 ≤ i; omega)] at hu; cases hu
  subst this
  have hu' : Value.int .i64 p = u := by simpa using hu
  subst hu'
  have e : (⟨g, 0, none⟩ : Addr).add (j * (Kd.int IntKind.i64).sz + 0) = ⟨g, j, none⟩ := by
    have e1 : j * (Kd.int IntKind.i64).sz + 0 = j := by show j * 1 + 0 = j; omega
    rw [e1, add_plain]
  rw [e, h.cell j (by have := h.len; omega)]
  have : rd C j = p := by rw [← hj2]; simp [rd, List.getD_eq_getElem?_getD, hj1]
  rw [this]

theorem sameInts8 (A0 : Option Addr) (c0 : Nat) (l0 : List Int) (A1 : Option Addr) (c1 : Nat) (l1 : List Int) (w : World) (h0 : l0.length = 8) (h1 : l1.length = 8) (hr0 : Kd.C (Kd.int .i64) w A0 l0.length l0) (hr1 : Kd.C (Kd.int .i64) w A1 l1.length l1) (r : Bool) (hr : r = decide (l0 = l1)) :
    Calls Try.prog 34 #[.slice A0 8 c0, .slice A1 8 c1] w fun e w' => e = .returned (.bool r) ∧ Below w.heap.size w w' := by
  have := sameInts A0 c0 l0 A1 c1 l1 w hr0 hr1 r hr
  rwa [h0, h1] at this
set_option maxRecDepth 100000 in
set_option maxHeartbeats 3200000 in
theorem tallyScript_walk (W : World) (A0 : Option Addr) (c0 : Nat) (l0 : List TActD) (hr0 : Kd.C kTAct W A0 l0.length l0) (hc0 : l0.length ≤ c0) (hg0 : ∀ x ∈ l0, GTAct x) :
    Calls Try.prog 6 #[.slice A0 l0.length c0] W fun e w' => e = .returned (.bool true) ∧ Below W.heap.size W w' := by
  have hm0 := Kd.C_max hr0
  have HR0 := Aside0.mk hr0
  clear hr0 hg0
  have hua := Try.underlying49
  rcases Nat.lt_or_ge 100 l0.length with h1 | h1
  · go_enter Try.func6, Try.ntmps6
    go_wp2_with fail
    refine (awake2 _).mono ?_
    rintro e w6 ⟨rfl, hb6⟩
    go_wp2_with fail
    go_ret
    exact ⟨rfl, hb6⟩
  · go_enter Try.func6, Try.ntmps6
    go_wp2_with fail
    refine (tNew W).mono ?_
    rintro e w1 ⟨rfl, hd1, hb1⟩
    obtain ⟨g, hg⟩ : ∃ g, g = W.heap.size := ⟨_, rfl⟩
    have HGL : Aside0 (W.heap.size ≤ g) := ⟨by omega⟩
    rw [← hg]
    have HD1 : Aside0 (TallyR 69 w1 W.heap.size g [0, 0, 0, 0, 0, 0, 0, 0]) := ⟨by rw [hg]; exact hd1⟩
    have HB1 := Aside0.mk hb1
    clear hd1 hb1 hg
    obtain ⟨g2, hg2⟩ : ∃ g2, g2 = w1.heap.size := ⟨_, rfl⟩
    have HGG : Aside0 (g < g2) := ⟨by rw [hg2]; exact HD1.out.lt⟩
    obtain ⟨w2, hw2⟩ : ∃ w2, w2 = w1.alloc (.cells #[.int .i64 0, .int .i64 0, .int .i64 0, .int .i64 0, .int .i64 0, .int .i64 0, .int .i64 0, .int .i64 0] 47) := ⟨_, rfl⟩
    have hba := (Below.refl w1.heap.size w1).alloc (Nat.le_refl _) (.cells #[.int .i64 0, .int .i64 0, .int .i64 0, .int .i64 0, .int .i64 0, .int .i64 0, .int .i64 0, .int .i64 0] 47)
    rw [← hw2] at hba
    have HE2 : Aside0 (TallyR 47 w2 W.heap.size g2 [0, 0, 0, 0, 0, 0, 0, 0]) := ⟨⟨by have := HGL.out; have := HGG.out; omega, by rw [hw2, hg2]; exact alloc_at w1 _, rfl, by decide⟩⟩
    have HD2 := Aside0.mk (HD1.out.below hba)
    have HB2 := Aside0.mk (two_andt _ _ _ HB1.out hba)
    have HW2 := Aside0.mk hw2
    have HG2 := Aside0.mk hg2
    clear hba hw2 hg2
    go_upto_region 6 with (fail)
    rw [← HG2.out, ← HW2.out]
    go_wp2_with fail
    go_loopg [5] l0.length (fun kq v5 w' => ∃ (k : Nat) (C : List Int), k + kq = l0.length ∧ v5 = .int .i64 k ∧ Aside0 (TallyR 69 w' W.heap.size g C) ∧ Aside0 (TallyR 47 w' W.heap.size g2 C) ∧ Aside0 (Below W.heap.size W w'))
    case atStart => exact ⟨0, _, by omega, rfl, HD2, HE2, HB2⟩
    case round =>
      clear HD1 HB1 HD2 HE2 HB2 HW2 HG2
      obtain ⟨k, C, hk, rfl, HD, HE, HB⟩ := hrel
      by_cases hlt : k < l0.length
      · obtain ⟨ad, rfl, hx0, hx1, hx2⟩ := at_tact (Kd.C_below HR0.out HB.out) k hlt
        obtain ⟨s, hs⟩ : ∃ s, s = l0[k] := ⟨_, rfl⟩
        rw [← hs] at hx0 hx1 hx2
        clear hs
        obtain ⟨rz, i, n⟩ := s
        obtain ⟨gx, hgx⟩ : ∃ gx, gx = wr.heap.size := ⟨_, rfl⟩
        obtain ⟨wx, hwx⟩ : ∃ wx, wx = wr.alloc (.cells #[.bool rz, .int .i64 i, .int .i64 n] 49) := ⟨_, rfl⟩
        have hbx : wx.heap[gx]? = some (.cells [.bool rz, .int .i64 i, .int .i64 n].toArray 49 (0, 0)) := by rw [hwx, hgx]; exact alloc_at wr _
        have hba := (Below.refl wr.heap.size wr).alloc (Nat.le_refl _) (.cells #[.bool rz, .int .i64 i, .int .i64 n] 49)
        rw [← hwx] at hba
        have HDx := Aside0.mk (HD.out.below hba)
        have HEx := Aside0.mk (HE.out.below hba)
        have HBx := Aside0.mk (two_andt _ _ _ HB.out hba)
        have HG2X : Aside0 (g2 < gx) := ⟨by rw [hgx]; exact HE.out.lt⟩
        have HF : Aside0 (g < gx) := ⟨by rw [hgx]; exact HD.out.lt⟩
        have HBX := Aside0.mk hbx
        have HWX := Aside0.mk hwx.symm
        have HGX := Aside0.mk hgx.symm
        clear hbx hwx hgx hba
        go_upto_region 10 with (fail)
        rw [HWX.out, HGX.out]
        clear HWX HGX
        obtain ⟨C2, hC2⟩ : ∃ C2, C2 = actC C ⟨rz, i, n⟩ := ⟨_, rfl⟩
        have HC2 := Aside0.mk hC2
        have hq0 : wx.cell? ⟨gx, 0, none⟩ = some (.bool rz) := cell_of_blk HBX.out
        have hq1 : wx.cell? ⟨gx, 1, none⟩ = some (.int .i64 i) := cell_of_blk HBX.out
        have hq2 : wx.cell? ⟨gx, 2, none⟩ = some (.int .i64 n) := cell_of_blk HBX.out
        clear hC2 hx0 hx1 hx2
        cases rz with
        | true =>
          have hy0 : (wx.drew).cell? ⟨gx, 1, none⟩ = some (.int .i64 i) := by simpa using hq1
          have hy1 : (wx.drew).cell? ⟨gx, 2, none⟩ = some (.int .i64 n) := by simpa using hq2
          have HD0 := Aside0.mk (HDx.out.below (below_drew1 (Below.refl _ _)))
          have HE0 := Aside0.mk (HEx.out.below (below_drew1 (Below.refl _ _)))
          have HB0 := Aside0.mk (below_drew1 HBx.out)
          have HBX0 := Aside0.mk (show (wx.drew).heap[gx]? = _ from HBX.out)
          go_wp2_with fail
          clear hq0 hq1 hq2
          go_region_held3 (fun w' => w'.cell? ⟨gx, 1, none⟩ = some (.int .i64 i) ∧ w'.cell? ⟨gx, 2, none⟩ = some (.int .i64 n)) (first | exact ⟨hy0, hy1⟩ | exact ⟨hz0, hz1⟩ | exact ⟨hv0, hv1⟩)
           (first
            | (go_at_call 29; refine (tRaiseA _ g C i n _ HDb.out).mono ?_; rintro e w6 ⟨rfl, hd6, hc6⟩; have HD6 := Aside0.mk hd6; have HE6 := Aside0.mk (HEb.out.ch hc6 (by have := HGG.out; omega)); have HB6 := Aside0.mk (two_cht _ _ _ _ HBb.out hc6 HGL.out); have hbk := hc6.blk HBXb.out (by have := HF.out; omega); have HBX6 := Aside0.mk hbk; have hv0 : w6.cell? ⟨gx, 1, none⟩ = some (.int .i64 i) := cell_of_blk hbk; have hv1 : w6.cell? ⟨gx, 2, none⟩ = some (.int .i64 n) := cell_of_blk hbk; clear hd6 hc6 hbk)
            | (go_at_call 29; refine (tRaiseA _ g C i n _ HD0.out).mono ?_; rintro e w5 ⟨rfl, hd5, hc5⟩; have HDa := Aside0.mk hd5; have HEa := Aside0.mk (HE0.out.ch hc5 (by have := HGG.out; omega)); have HBa := Aside0.mk (two_cht _ _ _ _ HB0.out hc5 HGL.out); have hbk := hc5.blk HBX0.out (by have := HF.out; omega); have HBXa := Aside0.mk hbk; have hz0 : w5.cell? ⟨gx, 1, none⟩ = some (.int .i64 i) := cell_of_blk hbk; have hz1 : w5.cell? ⟨gx, 2, none⟩ = some (.int .i64 n) := cell_of_blk hbk; clear hd5 hc5 hbk)
            | (go_at_call 30; refine (refTRaise _ g2 C i n _ HEa.out).mono ?_; rintro e w6 ⟨rfl, hd6, hc6⟩; have HE6 := Aside0.mk hd6; have HD6 := Aside0.mk (HDa.out.ch hc6 (by have := HGG.out; omega)); have HB6 := Aside0.mk (two_cht _ _ _ _ HBa.out hc6 (by have := HGG.out; have := HGL.out; omega)); have hbk := hc6.blk HBXa.out (by have := HG2X.out; omega); have HBX6 := Aside0.mk hbk; have hv0 : w6.cell? ⟨gx, 1, none⟩ = some (.int .i64 i) := cell_of_blk hbk; have hv1 : w6.cell? ⟨gx, 2, none⟩ = some (.int .i64 n) := cell_of_blk hbk; clear hd6 hc6 hbk)
            | (go_at_call 30; refine (refTRaise _ g2 C i n _ HE0.out).mono ?_; rintro e w5 ⟨rfl, hd5, hc5⟩; have HEb := Aside0.mk hd5; have HDb := Aside0.mk (HD0.out.ch hc5 (by have := HGG.out; omega)); have HBb := Aside0.mk (two_cht _ _ _ _ HB0.out hc5 (by have := HGG.out; have := HGL.out; omega)); have hbk := hc5.blk HBX0.out (by have := HG2X.out; omega); have HBXb := Aside0.mk hbk; have hz0 : w5.cell? ⟨gx, 1, none⟩ = some (.int .i64 i) := cell_of_blk hbk; have hz1 : w5.cell? ⟨gx, 2, none⟩ = some (.int .i64 n) := cell_of_blk hbk; clear hd5 hc5 hbk))
          obtain ⟨q, hq⟩ : ∃ q, q = getC (raiseC C i n) i := ⟨_, rfl⟩
          have hcc : raiseC C i n = C2 := by rw [HC2.out]; rfl
          rw [← hq]
          rw [hcc] at HD6 HE6
          have hqq : (q != q) = false := by simp
          clear hq hcc
          go_wp2_with fail
          refine (tAll8 _ _ g C2 w6 HD6.out).mono ?_
          rintro e w7 ⟨A7, c7, rfl, hu7, hb7⟩
          have HU7 := Aside0.mk hu7
          have HD7 := Aside0.mk (HD6.out.below hb7)
          have HE7 := Aside0.mk (HE6.out.below hb7)
          have HB7 := Aside0.mk (two_andt _ _ _ HB6.out hb7)
          have HUB := Aside0.mk hu7.base_
          have HLT := Aside0.mk HE6.out.lt
          have HLT1 := Aside0.mk HD6.out.lt
          have HWS := Aside0.mk hb7.size
          clear hu7 hb7
          go_wp2_with fail
          refine (sameInts8 A7 c7 C2 (some ⟨g2, 0, none⟩) 8 C2 w7 HD7.out.len HD7.out.len HU7.out.is.2.2 (tally_row HE7.out) true (by simp)).mono ?_
          rintro e w8 ⟨rfl, hb8⟩
          have HU8 := Aside0.mk (HU7.out.below hb8)
          have HD8 := Aside0.mk (HD7.out.below hb8)
          have HE8 := Aside0.mk (HE7.out.below hb8)
          have HB8 := Aside0.mk (two_andt _ _ _ HB7.out hb8)
          have HWS8 : Aside0 (w6.heap.size ≤ w8.heap.size) := ⟨Nat.le_trans HWS.out hb8.size⟩
          clear hb8
          go_wp2_with fail
          refine (overInts _ C2 w6.heap.size w8 HU8.out HWS8.out (by rw [HD8.out.len]; omega)).mono ?_
          rintro e w9 ⟨rfl, hg9⟩
          have hc9 := Ch.of_grown (S := fun b => w6.heap.size ≤ b) hg9 (fun b hb => HUB.out b hb)
          have HD9 := Aside0.mk (HD8.out.ch hc9 (by have := HLT1.out; omega))
          have HE9 := Aside0.mk (HE8.out.ch hc9 (by have := HLT.out; omega))
          have HB9 := Aside0.mk (Below.ch HB8.out hc9 HB8.out.size (fun b hb => Nat.le_trans HB6.out.size hb))
          clear hg9 hc9
          go_wp2_with fail
          go_roundg (l0.length - (k + 1))
          case measure => omega
          case rel => exact ⟨k + 1, C2, by omega, by go_num, HD9, HE9, HB9⟩
        | false =>
          have hy0 : (wx.drew).cell? ⟨gx, 1, none⟩ = some (.int .i64 i) := by simpa using hq1
          have hy1 : (wx.drew).cell? ⟨gx, 2, none⟩ = some (.int .i64 n) := by simpa using hq2
          have HD0 := Aside0.mk (HDx.out.below (below_drew1 (Below.refl _ _)))
          have HE0 := Aside0.mk (HEx.out.below (below_drew1 (Below.refl _ _)))
          have HB0 := Aside0.mk (below_drew1 HBx.out)
          have HBX0 := Aside0.mk (show (wx.drew).heap[gx]? = _ from HBX.out)
          go_wp2_with fail
          clear hq0 hq1 hq2
          go_region_held3 (fun w' => w'.cell? ⟨gx, 1, none⟩ = some (.int .i64 i) ∧ w'.cell? ⟨gx, 2, none⟩ = some (.int .i64 n)) (first | exact ⟨hy0, hy1⟩ | exact ⟨hz0, hz1⟩ | exact ⟨hv0, hv1⟩)
           (first
            | (go_at_call 31; refine (tAddA _ g C i n _ HDb.out).mono ?_; rintro e w6 ⟨rfl, hd6, hc6⟩; have HD6 := Aside0.mk hd6; have HE6 := Aside0.mk (HEb.out.ch hc6 (by have := HGG.out; omega)); have HB6 := Aside0.mk (two_cht _ _ _ _ HBb.out hc6 HGL.out); have hbk := hc6.blk HBXb.out (by have := HF.out; omega); have HBX6 := Aside0.mk hbk; have hv0 : w6.cell? ⟨gx, 1, none⟩ = some (.int .i64 i) := cell_of_blk hbk; have hv1 : w6.cell? ⟨gx, 2, none⟩ = some (.int .i64 n) := cell_of_blk hbk; clear hd6 hc6 hbk)
            | (go_at_call 31; refine (tAddA _ g C i n _ HD0.out).mono ?_; rintro e w5 ⟨rfl, hd5, hc5⟩; have HDa := Aside0.mk hd5; have HEa := Aside0.mk (HE0.out.ch hc5 (by have := HGG.out; omega)); have HBa := Aside0.mk (two_cht _ _ _ _ HB0.out hc5 HGL.out); have hbk := hc5.blk HBX0.out (by have := HF.out; omega); have HBXa := Aside0.mk hbk; have hz0 : w5.cell? ⟨gx, 1, none⟩ = some (.int .i64 i) := cell_of_blk hbk; have hz1 : w5.cell? ⟨gx, 2, none⟩ = some (.int .i64 n) := cell_of_blk hbk; clear hd5 hc5 hbk)
            | (go_at_call 32; refine (refTAdd _ g2 C i n _ HEa.out).mono ?_; rintro e w6 ⟨rfl, hd6, hc6⟩; have HE6 := Aside0.mk hd6; have HD6 := Aside0.mk (HDa.out.ch hc6 (by have := HGG.out; omega)); have HB6 := Aside0.mk (two_cht _ _ _ _ HBa.out hc6 (by have := HGG.out; have := HGL.out; omega)); have hbk := hc6.blk HBXa.out (by have := HG2X.out; omega); have HBX6 := Aside0.mk hbk; have hv0 : w6.cell? ⟨gx, 1, none⟩ = some (.int .i64 i) := cell_of_blk hbk; have hv1 : w6.cell? ⟨gx, 2, none⟩ = some (.int .i64 n) := cell_of_blk hbk; clear hd6 hc6 hbk)
            | (go_at_call 32; refine (refTAdd _ g2 C i n _ HE0.out).mono ?_; rintro e w5 ⟨rfl, hd5, hc5⟩; have HEb := Aside0.mk hd5; have HDb := Aside0.mk (HD0.out.ch hc5 (by have := HGG.out; omega)); have HBb := Aside0.mk (two_cht _ _ _ _ HB0.out hc5 (by have := HGG.out; have := HGL.out; omega)); have hbk := hc5.blk HBX0.out (by have := HG2X.out; omega); have HBXb := Aside0.mk hbk; have hz0 : w5.cell? ⟨gx, 1, none⟩ = some (.int .i64 i) := cell_of_blk hbk; have hz1 : w5.cell? ⟨gx, 2, none⟩ = some (.int .i64 n) := cell_of_blk hbk; clear hd5 hc5 hbk))
          obtain ⟨q, hq⟩ : ∃ q, q = getC (addC C i n) i := ⟨_, rfl⟩
          have hcc : addC C i n = C2 := by rw [HC2.out]; rfl
          rw [← hq]
          rw [hcc] at HD6 HE6
          have hqq : (q != q) = false := by simp
          clear hq hcc
          go_wp2_with fail
          refine (tAll8 _ _ g C2 w6 HD6.out).mono ?_
          rintro e w7 ⟨A7, c7, rfl, hu7, hb7⟩
          have HU7 := Aside0.mk hu7
          have HD7 := Aside0.mk (HD6.out.below hb7)
          have HE7 := Aside0.mk (HE6.out.below hb7)
          have HB7 := Aside0.mk (two_andt _ _ _ HB6.out hb7)
          have HUB := Aside0.mk hu7.base_
          have HLT := Aside0.mk HE6.out.lt
          have HLT1 := Aside0.mk HD6.out.lt
          have HWS := Aside0.mk hb7.size
          clear hu7 hb7
          go_wp2_with fail
          refine (sameInts8 A7 c7 C2 (some ⟨g2, 0, none⟩) 8 C2 w7 HD7.out.len HD7.out.len HU7.out.is.2.2 (tally_row HE7.out) true (by simp)).mono ?_
          rintro e w8 ⟨rfl, hb8⟩
          have HU8 := Aside0.mk (HU7.out.below hb8)
          have HD8 := Aside0.mk (HD7.out.below hb8)
          have HE8 := Aside0.mk (HE7.out.below hb8)
          have HB8 := Aside0.mk (two_andt _ _ _ HB7.out hb8)
          have HWS8 : Aside0 (w6.heap.size ≤ w8.heap.size) := ⟨Nat.le_trans HWS.out hb8.size⟩
          clear hb8
          go_wp2_with fail
          refine (overInts _ C2 w6.heap.size w8 HU8.out HWS8.out (by rw [HD8.out.len]; omega)).mono ?_
          rintro e w9 ⟨rfl, hg9⟩
          have hc9 := Ch.of_grown (S := fun b => w6.heap.size ≤ b) hg9 (fun b hb => HUB.out b hb)
          have HD9 := Aside0.mk (HD8.out.ch hc9 (by have := HLT1.out; omega))
          have HE9 := Aside0.mk (HE8.out.ch hc9 (by have := HLT.out; omega))
          have HB9 := Aside0.mk (Below.ch HB8.out hc9 HB8.out.size (fun b hb => Nat.le_trans HB6.out.size hb))
          clear hg9 hc9
          go_wp2_with fail
          go_roundg (l0.length - (k + 1))
          case measure => omega
          case rel => exact ⟨k + 1, C2, by omega, by go_num, HD9, HE9, HB9⟩
      · have hl8 : C.length = 8 := HE.out.len
        have HL8 := Aside0.mk hl8
        have HD0 := Aside0.mk (HD.out.below (below_drew1 (Below.refl _ _)))
        have HE0 := Aside0.mk (HE.out.below (below_drew1 (Below.refl _ _)))
        have HB0 := Aside0.mk (below_drew1 HB.out)
        clear hl8
        go_wp2_with fail
        go_region_held3 (fun w' => Below W.heap.size W w') (first | exact HB0.out | exact HB7.out | exact HB8.out | exact HB9.out)
         (first
          | (go_at_call 33; refine (tAll8 _ _ g C _ HD0.out).mono ?_; rintro e w7 ⟨A7, c7, rfl, hu7, hb7⟩; have HU7 := Aside0.mk hu7; have HE7 := Aside0.mk (HE0.out.below hb7); have HB7 := Aside0.mk (two_andt _ _ _ HB0.out hb7); clear hu7 hb7)
          | (go_at_call 34; refine (sameInts8 A7 c7 C (some ⟨g2, 0, none⟩) 8 C w7 HL8.out HL8.out HU7.out.is.2.2 (tally_row HE7.out) true (by simp)).mono ?_; rintro e w8 ⟨rfl, hb8⟩; have HB8 := Aside0.mk (two_andt _ _ _ HB7.out hb8); clear hb8)
          | (go_at_call 27; refine (awake2 w8).mono ?_; rintro e w9 ⟨rfl, hb9⟩; have HB9 := Aside0.mk (two_andt _ _ _ HB8.out hb9); clear hb9))
        go_wp2_with fail
        go_ret
        exact ⟨rfl, HB9.out⟩
end Go.Proofs.Ytnnjfideeeampaa.K
