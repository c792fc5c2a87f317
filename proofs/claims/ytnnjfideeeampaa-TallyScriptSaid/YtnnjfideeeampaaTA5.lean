/- The statements TallyRises and TallyScript. -/
import Derived.Test.YtnnjfideeeampaaTA4
import Derived.Deep.RegionHeld3
set_option linter.unusedVariables false
set_option linter.unusedSimpArgs false
namespace Go.Proofs.Ytnnjfideeeampaa.K
open Go.RowKit Go.Proofs.YtnnjfideeeampaaW.PrintWords Go.Proofs.YtnnjfideeeampaaW.PrintLast Go.Proofs.YtnnjfideeeampaaW.PrintMore Go.Proofs.Ytnnjfideeeampaa.U Go.Proofs.Ytnnjfideeeampaa.T

/-- All counters, their number written out. -/
theorem tAll8 (t : TypeId) (base g : Nat) (C : List Int) (w : World) (h : TallyR t w base g C) : Calls Try.prog 33 #[.pointer (some ⟨g, 0, none⟩)] w fun e w' => ∃ A c, e = .returned (.slice A 8 c) ∧ Own (Kd.int .i64) 3 w' w.heap.size (.slice A 8 c) C ∧ Below w.heap.size w w' := by
  refine (tAll t base g C w h).mono ?_
  rintro e w' ⟨u, rfl, hu, hb⟩
  obtain ⟨A, c, rfl, _, _⟩ := hu.reads
  rw [h.len] at hu ⊢
  exact ⟨A, c, rfl, hu, hb⟩
theorem own_cell8 {w : World} {base : Nat} {A : Option Addr} {c : Nat} {C : List Int} (h : Own (Kd.int .i64) 3 w base (.slice A 8 c) C) (k : Nat) (hk : k < 8) : ∃ ad, A = some ad ∧ w.cell? (ad.add k) = some (.int .i64 (rd C k)) := by
  obtain ⟨h1, h2, h3⟩ := h.is
  obtain ⟨ad, e, hc⟩ := Kd.at_int h3 (k : Int) (by omega) (by omega)
  rw [Int.toNat_natCast] at hc
  exact ⟨ad, e, hc⟩

theorem below_cell {w w' : World} (hb : Below w.heap.size w w') {a : Addr} {v : Value} (hc : w.cell? a = some v) : w'.cell? a = some v := (hb.cell (World.block_lt_of_cell? w _ hc)).trans hc
theorem dcell {w : World} {a : Addr} {v : Value} (h : w.cell? a = some v) (n : Nat) : ((w.drewN n).drew).cell? a = some v := below_cell (below_drew1 (pw_below_drewN (Below.refl _ _) _)) h
/-- What an act does to the counters. -/
def actC (C : List Int) (s : TActD) : List Int := if s.raise then raiseC C s.i s.n else addC C s.i s.n
theorem actC_rises (C : List Int) (s : TActD) (hl : C.length = 8) (hr : ∀ x ∈ C, 0 ≤ x ∧ x ≤ 1099511627776) (k : Nat) (hk : k < 8) : rd C k ≤ rd (actC C s) k ∧ ((k : Int) ≠ s.i → rd (actC C s) k = rd C k) := by
  have hs : ∀ (m : Int) (j : Nat), rd (C.set j m) k = if j = k then m else rd C k := fun m j => by
    simp only [rd, Int.toNat_natCast, List.getD_eq_getElem?_getD, List.getElem?_set]
    by_cases hj : j = k
    · subst hj; simp [show j < C.length by omega]
    · rw [if_neg hj, if_neg hj]
  have hrk : 0 ≤ rd C k ∧ rd C k ≤ 1099511627776 := by
    have : rd C k = C[k]'(by omega) := by simp [rd, List.getD_eq_getElem?_getD, show k < C.length by omega]
    rw [this]
    exact hr _ (List.getElem_mem _)
  unfold actC
  split
  · unfold raiseC
    split
    · exact ⟨Int.le_refl _, fun _ => rfl⟩
    · rw [hs]
      split
      · next h =>
        subst h
        refine ⟨by omega, fun h => absurd ?_ h⟩
        omega
      · exact ⟨Int.le_refl _, fun _ => rfl⟩
  · unfold addC
    split
    · exact ⟨Int.le_refl _, fun _ => rfl⟩
    · rw [hs]
      split
      · next h =>
        subst h
        have : 0 ≤ addN s.n := by unfold addN; split <;> omega
        refine ⟨by omega, fun h => absurd ?_ h⟩
        omega
      · exact ⟨Int.le_refl _, fun _ => rfl⟩

set_option maxRecDepth 100000 in
set_option maxHeartbeats 3200000 in
theorem tallyRises_walk (W : World) (A0 : Option Addr) (c0 : Nat) (l0 : List TActD) (hr0 : Kd.C kTAct W A0 l0.length l0) (hc0 : l0.length ≤ c0) (hg0 : ∀ x ∈ l0, GTAct x) :
    Calls Try.prog 7 #[.slice A0 l0.length c0] W fun e w' => e = .returned (.bool true) ∧ Below W.heap.size W w' := by
  have hm0 := Kd.C_max hr0
  have HR0 := Aside0.mk hr0
  clear hr0 hg0
  have hua := Try.underlying49
  rcases Nat.lt_or_ge 100 l0.length with h1 | h1
  · go_enter Try.func7, Try.ntmps7
    go_wp2_with fail
    refine (awake2 _).mono ?_
    rintro e w6 ⟨rfl, hb6⟩
    go_wp2_with fail
    go_ret
    exact ⟨rfl, hb6⟩
  · go_enter Try.func7, Try.ntmps7
    go_wp2_with fail
    refine (tNew W).mono ?_
    rintro e w1 ⟨rfl, hd1, hb1⟩
    obtain ⟨g, hg⟩ : ∃ g, g = W.heap.size := ⟨_, rfl⟩
    have HGL : Aside0 (W.heap.size ≤ g) := ⟨by omega⟩
    rw [← hg]
    have HD1 : Aside0 (TallyR 69 w1 W.heap.size g [0, 0, 0, 0, 0, 0, 0, 0]) := ⟨by rw [hg]; exact hd1⟩
    have HB1 := Aside0.mk hb1
    clear hd1 hb1 hg
    go_wp2_with fail
    go_loopg [4] l0.length (fun kq v4 w' => ∃ (k : Nat) (C : List Int), k + kq = l0.length ∧ v4 = .int .i64 k ∧ Aside0 (TallyR 69 w' W.heap.size g C) ∧ Aside0 (Below W.heap.size W w'))
    case atStart => exact ⟨0, _, by omega, rfl, HD1, HB1⟩
    case round =>
      clear HD1 HB1
      obtain ⟨k, C, hk, rfl, HD, HB⟩ := hrel
      by_cases hlt : k < l0.length
      · obtain ⟨ad, rfl, hx0, hx1, hx2⟩ := at_tact (Kd.C_below HR0.out HB.out) k hlt
        obtain ⟨s, hs⟩ : ∃ s, s = l0[k] := ⟨_, rfl⟩
        rw [← hs] at hx0 hx1 hx2
        clear hs
        obtain ⟨rz, i, n⟩ := s
        obtain ⟨gx, hgx⟩ : ∃ gx, gx = wr.heap.size := ⟨_, rfl⟩
        obtain ⟨wx, hwx⟩ : ∃ wx, wx = wr.alloc (.cells #[.bool rz, .int .i64 i, .int .i64 n] 49) := ⟨_, rfl⟩
        have hbx : wx.heap[gx]? = some (.cells [.bool rz, .int .i64 i, .int .i64 n].toArray 49 (0, 0)) := by rw [hwx, hgx]; exact alloc_at wr _
        have hba := (Below.refl wr.heap.size wr).alloc (Nat.le_refl _) (.cells #[.bool rz, .int .i64 i, .int .i64 n] 49)
        rw [← hwx] at hba
        have HDx := Aside0.mk (HD.out.below hba)
        have HBx := Aside0.mk (two_andt _ _ _ HB.out hba)
        have HF : Aside0 (g < gx) := ⟨by rw [hgx]; exact HD.out.lt⟩
        have HBX := Aside0.mk hbx
        have HWX := Aside0.mk hwx.symm
        have HGX := Aside0.mk hgx.symm
        clear hbx hwx hgx hba
        go_upto_region 10 with (fail)
        rw [HWX.out, HGX.out]
        clear HWX HGX
        go_wp2_with fail
        refine (tAll8 _ _ g C wx HDx.out).mono ?_
        rintro e w4 ⟨A1, c1, rfl, hu4, hb4⟩
        have HU4 := Aside0.mk hu4
        have HD4 := Aside0.mk (HDx.out.below hb4)
        have HB4 := Aside0.mk (two_andt _ _ _ HBx.out hb4)
        have HUB := Aside0.mk hu4.base_
        have hb4x := (hb4.block gx (blk_lt' HBX.out)).trans HBX.out
        have HBX4 := Aside0.mk hb4x
        have HWS := Aside0.mk hb4.size
        have HXL := Aside0.mk (blk_lt' HBX.out)
        have hx0' : w4.cell? ⟨gx, 0, none⟩ = some (.bool rz) := cell_of_blk hb4x
        have hx1' : w4.cell? ⟨gx, 1, none⟩ = some (.int .i64 i) := cell_of_blk hb4x
        have hx2' : w4.cell? ⟨gx, 2, none⟩ = some (.int .i64 n) := cell_of_blk hb4x
        obtain ⟨C2, hC2⟩ : ∃ C2, C2 = actC C ⟨rz, i, n⟩ := ⟨_, rfl⟩
        have HC2 := Aside0.mk hC2
        have hri := fun k hk => actC_rises C ⟨rz, i, n⟩ HD.out.len HD.out.rng k hk
        rw [← hC2] at hri
        have HRI := Aside0.mk hri
        clear hu4 hb4 hb4x hx0 hx1 hx2 hC2 hri
        cases rz with
        | true =>
          go_wp2_with fail
          refine (tRaiseA _ g C i n _ HD4.out).mono ?_
          rintro e w5 ⟨rfl, hd5, hc5⟩
          rw [show raiseC C i n = C2 by rw [HC2.out]; rfl] at hd5
          have HD5 := Aside0.mk hd5
          have HB5 := Aside0.mk (two_cht _ _ _ _ HB4.out hc5 HGL.out)
          have HU5 := Aside0.mk (HU4.out.ch (flat_int .i64) hc5 (fun b hb e => by have := HUB.out b hb; have := HF.out; have := HXL.out; omega))
          have HBX5 := Aside0.mk (hc5.blk HBX4.out (by have := HF.out; omega))
          clear hd5 hc5 hx0' hx1' hx2'
          go_wp2_with fail
          refine (tAll8 _ _ g C2 _ HD5.out).mono ?_
          rintro e w6 ⟨A2, c2, rfl, hu6, hb6⟩
          have HU6 := Aside0.mk hu6
          have HV6 := Aside0.mk (HU5.out.below hb6)
          have HD6 := Aside0.mk (HD5.out.below hb6)
          have HB6 := Aside0.mk (two_andt _ _ _ HB5.out hb6)
          have HBX6 := Aside0.mk ((hb6.block gx (blk_lt' HBX5.out)).trans HBX5.out)
          clear hu6 hb6
          go_wp2_with fail
          go_loopg [8] 8 (fun kq v8 w' => ∃ (j : Nat), j + kq = 8 ∧ v8 = .int .i64 j ∧ Drawn0 w6 w')
          case atStart => exact ⟨0, by omega, rfl, Drawn0.refl _⟩
          case round =>
            obtain ⟨j, hj, rfl, ⟨m1, rfl⟩⟩ := hrel
            by_cases hlt8 : j < 8
            · obtain ⟨ad1, rfl, hy0⟩ := own_cell8 HV6.out j hlt8
              obtain ⟨ad2, rfl, hy1⟩ := own_cell8 HU6.out j hlt8
              have hy2 : w6.cell? ⟨gx, 1, none⟩ = some (.int .i64 i) := cell_of_blk HBX6.out
              obtain ⟨x, hx⟩ : ∃ x, x = rd C j := ⟨_, rfl⟩
              obtain ⟨y, hy⟩ : ∃ y, y = rd C2 j := ⟨_, rfl⟩
              have hrr := HRI.out j hlt8
              have hym := HD6.out.rd_rng j hlt8
              rw [← hx] at hy0 hrr
              rw [← hy] at hy1 hrr hym
              have HY := Aside0.mk hy
              have hle : decide (y < x) = false := decide_eq_false (by have := hrr.1; omega)
              have hmo : decide (1099511627776 < y) = false := decide_eq_false (by have := hym.2; omega)
              have hyy : (y != y) = false := by simp
              have HNE := Aside0.mk hrr.2
              have HGET : Aside0 (∀ w, TallyR 69 w W.heap.size g C2 → Calls Try.prog 36 #[.pointer (some ⟨g, 0, none⟩), .int .i64 j] w fun e w' => e = .returned (.int .i64 y) ∧ w' = w) := ⟨fun w hw => by rw [HY.out]; exact tGet _ _ g j hlt8 C2 w hw⟩
              clear hx hy hrr hym
              by_cases hji : (j : Int) = i
              · have hjb : ((j : Int) != i) = false := by simpa using hji
                clear HNE hji
                go_wp2_with fail
                go_quiet ((go_at_call 36; exact (HGET.out _ (HD6.out.below (pw_below_drewN (Below.refl _ _) _))).mono (fun e w' h => ⟨h.1, _, h.2⟩)))
                go_wp2_with fail
                go_roundg (8 - (j + 1))
                case measure => omega
                case rel => exact ⟨j + 1, by omega, by go_num, by repeat (first | exact Drawn0.refl _ | apply Drawn0.step)⟩
              · have hjb : ((j : Int) != i) = true := by simpa using hji
                have hxy : (y != x) = false := by have := HNE.out hji; simpa using this
                clear hji
                go_wp2_with fail
                go_quiet ((go_at_call 36; exact (HGET.out _ (HD6.out.below (pw_below_drewN (Below.refl _ _) _))).mono (fun e w' h => ⟨h.1, _, h.2⟩)))
                go_wp2_with fail
                go_roundg (8 - (j + 1))
                case measure => omega
                case rel => exact ⟨j + 1, by omega, by go_num, by repeat (first | exact Drawn0.refl _ | apply Drawn0.step)⟩
            · obtain rfl : j = 8 := by omega
              go_wp2_with fail
              go_roundg (l0.length - (k + 1))
              case measure => omega
              case rel => exact ⟨k + 1, C2, by omega, by go_num, ⟨HD6.out.below (pw_below_drewN (Below.refl _ _) _)⟩, ⟨two_andt _ _ _ HB6.out (pw_below_drewN (Below.refl _ _) _)⟩⟩
        | false =>
          go_wp2_with fail
          refine (tAddA _ g C i n _ HD4.out).mono ?_
          rintro e w5 ⟨rfl, hd5, hc5⟩
          rw [show addC C i n = C2 by rw [HC2.out]; rfl] at hd5
          have HD5 := Aside0.mk hd5
          have HB5 := Aside0.mk (two_cht _ _ _ _ HB4.out hc5 HGL.out)
          have HU5 := Aside0.mk (HU4.out.ch (flat_int .i64) hc5 (fun b hb e => by have := HUB.out b hb; have := HF.out; have := HXL.out; omega))
          have HBX5 := Aside0.mk (hc5.blk HBX4.out (by have := HF.out; omega))
          clear hd5 hc5 hx0' hx1' hx2'
          go_wp2_with fail
          refine (tAll8 _ _ g C2 _ HD5.out).mono ?_
          rintro e w6 ⟨A2, c2, rfl, hu6, hb6⟩
          have HU6 := Aside0.mk hu6
          have HV6 := Aside0.mk (HU5.out.below hb6)
          have HD6 := Aside0.mk (HD5.out.below hb6)
          have HB6 := Aside0.mk (two_andt _ _ _ HB5.out hb6)
          have HBX6 := Aside0.mk ((hb6.block gx (blk_lt' HBX5.out)).trans HBX5.out)
          clear hu6 hb6
          go_wp2_with fail
          go_loopg [8] 8 (fun kq v8 w' => ∃ (j : Nat), j + kq = 8 ∧ v8 = .int .i64 j ∧ Drawn0 w6 w')
          case atStart => exact ⟨0, by omega, rfl, Drawn0.refl _⟩
          case round =>
            obtain ⟨j, hj, rfl, ⟨m1, rfl⟩⟩ := hrel
            by_cases hlt8 : j < 8
            · obtain ⟨ad1, rfl, hy0⟩ := own_cell8 HV6.out j hlt8
              obtain ⟨ad2, rfl, hy1⟩ := own_cell8 HU6.out j hlt8
              have hy2 : w6.cell? ⟨gx, 1, none⟩ = some (.int .i64 i) := cell_of_blk HBX6.out
              obtain ⟨x, hx⟩ : ∃ x, x = rd C j := ⟨_, rfl⟩
              obtain ⟨y, hy⟩ : ∃ y, y = rd C2 j := ⟨_, rfl⟩
              have hrr := HRI.out j hlt8
              have hym := HD6.out.rd_rng j hlt8
              rw [← hx] at hy0 hrr
              rw [← hy] at hy1 hrr hym
              have HY := Aside0.mk hy
              have hle : decide (y < x) = false := decide_eq_false (by have := hrr.1; omega)
              have hmo : decide (1099511627776 < y) = false := decide_eq_false (by have := hym.2; omega)
              have hyy : (y != y) = false := by simp
              have HNE := Aside0.mk hrr.2
              have HGET : Aside0 (∀ w, TallyR 69 w W.heap.size g C2 → Calls Try.prog 36 #[.pointer (some ⟨g, 0, none⟩), .int .i64 j] w fun e w' => e = .returned (.int .i64 y) ∧ w' = w) := ⟨fun w hw => by rw [HY.out]; exact tGet _ _ g j hlt8 C2 w hw⟩
              clear hx hy hrr hym
              by_cases hji : (j : Int) = i
              · have hjb : ((j : Int) != i) = false := by simpa using hji
                clear HNE hji
                go_wp2_with fail
                go_quiet ((go_at_call 36; exact (HGET.out _ (HD6.out.below (pw_below_drewN (Below.refl _ _) _))).mono (fun e w' h => ⟨h.1, _, h.2⟩)))
                go_wp2_with fail
                go_roundg (8 - (j + 1))
                case measure => omega
                case rel => exact ⟨j + 1, by omega, by go_num, by repeat (first | exact Drawn0.refl _ | apply Drawn0.step)⟩
              · have hjb : ((j : Int) != i) = true := by simpa using hji
                have hxy : (y != x) = false := by have := HNE.out hji; simpa using this
                clear hji
                go_wp2_with fail
                go_quiet ((go_at_call 36; exact (HGET.out _ (HD6.out.below (pw_below_drewN (Below.refl _ _) _))).mono (fun e w' h => ⟨h.1, _, h.2⟩)))
                go_wp2_with fail
                go_roundg (8 - (j + 1))
                case measure => omega
                case rel => exact ⟨j + 1, by omega, by go_num, by repeat (first | exact Drawn0.refl _ | apply Drawn0.step)⟩
            · obtain rfl : j = 8 := by omega
              go_wp2_with fail
              go_roundg (l0.length - (k + 1))
              case measure => omega
              case rel => exact ⟨k + 1, C2, by omega, by go_num, ⟨HD6.out.below (pw_below_drewN (Below.refl _ _) _)⟩, ⟨two_andt _ _ _ HB6.out (pw_below_drewN (Below.refl _ _) _)⟩⟩
      · go_wp2_with fail
        refine (tGetA _ _ g C (-1) _ HD.out).mono ?_
        rintro e w4 ⟨rfl, rfl⟩
        rw [show getC C (-1) = 0 from if_pos (by omega)]
        go_wp2_with fail
        refine (tGetA _ _ g C 8 _ HD.out).mono ?_
        rintro e w4 ⟨rfl, rfl⟩
        rw [show getC C 8 = 0 from if_pos (by omega)]
        go_wp2_with fail
        refine (awake2 _).mono ?_
        rintro e w6 ⟨rfl, hb6⟩
        have HB6 := Aside0.mk (two_andt _ _ _ HB.out hb6)
        clear hb6
        go_wp2_with fail
        go_ret
        exact ⟨rfl, HB6.out⟩
end Go.Proofs.Ytnnjfideeeampaa.K
