/- The statement DiskScript. -/
import Derived.Test.YtnnjfideeeampaaD4
set_option linter.unusedVariables false
set_option linter.unusedSimpArgs false
namespace Go.Proofs.Ytnnjfideeeampaa.K
open Go.RowKit Go.Proofs.YtnnjfideeeampaaW.PrintWords Go.Proofs.YtnnjfideeeampaaW.PrintLast Go.Proofs.YtnnjfideeeampaaW.PrintMore Go.Proofs.Ytnnjfideeeampaa.U Go.Proofs.Ytnnjfideeeampaa.T

/-- Two disks side by side. -/
def Apart (g1 : Nat) (v1 : Value) (g2 : Nat) (v2 : Value) : Prop := ∀ k, footD g1 v1 k → ¬ footD g2 v2 k
theorem Apart.left {g1 g2 : Nat} {v1 v1' v2 : Value} {m : Nat} (h : Apart g1 v1 g2 v2) (h2 : ∀ k, footD g2 v2 k → k < m) (hat : ∀ k, v1'.ownBlock = some k → v1.ownBlock = some k ∨ m ≤ k) : Apart g1 v1' g2 v2 := fun k hk hf => by
  rcases hk with hk | hk
  · exact h k (.inl hk) hf
  · rcases hat k hk with h3 | h3
    · exact h k (.inr h3) hf
    · have := h2 k hf; omega
theorem Apart.right {g1 g2 : Nat} {v1 v2 v2' : Value} {m : Nat} (h : Apart g1 v1 g2 v2) (h1 : ∀ k, footD g1 v1 k → k < m) (hat : ∀ k, v2'.ownBlock = some k → v2.ownBlock = some k ∨ m ≤ k) : Apart g1 v1 g2 v2' := fun k hk hf => by
  rcases hf with hf | hf
  · exact h k hk (.inl hf)
  · rcases hat k hf with h3 | h3
    · exact h k hk (.inr h3)
    · have := h1 k hk; omega

theorem own_cut (A : Option Addr) (n n' c c' k : Nat) : (Value.slice A n c).ownBlock = some k ↔ (Value.slice A n' c').ownBlock = some k := by
  cases A with
  | none => rfl
  | some a => obtain ⟨b, o, s⟩ := a; cases s <;> cases o <;> rfl
set_option maxRecDepth 100000 in
set_option maxHeartbeats 8000000 in
theorem diskScript_walk (W : World) (A0 : Option Addr) (c0 : Nat) (l0 : List DActD) (hr0 : Kd.C kDAct W A0 l0.length l0) (hc0 : l0.length ≤ c0) (hg0 : ∀ x ∈ l0, GDAct x) :
    Calls Try.prog 3 #[.slice A0 l0.length c0] W fun e w' => e = .returned (.bool true) ∧ Below W.heap.size W w' := by
  have hm0 := Kd.C_max hr0
  have HR0 := Aside0.mk hr0
  clear hr0 hg0
  have hua := Try.underlying32
  go_enter Try.func3, Try.ntmps3
  go_wp2_with fail
  refine (greatD A0 c0 l0 80 W HR0.out).mono ?_
  rintro e w1 ⟨⟨r, rfl, hr⟩, hb1⟩
  cases r with
  | true =>
    go_wp2_with fail
    refine (awake14 _).mono ?_
    rintro e w6 ⟨rfl, hb6⟩
    have HB6 := Aside0.mk (two_andd _ _ _ hb1 hb6)
    clear hb1 hb6
    go_wp2_with fail
    go_ret
    exact ⟨rfl, HB6.out⟩
  | false =>
    have hl := (hr rfl).1
    have HS := Aside0.mk (hr rfl).2
    have HB1 := Aside0.mk hb1
    clear hr hb1
    go_wp2_with fail
    refine (diskNew w1).mono ?_
    rintro e w2 ⟨g, v, rfl, hd2, hb2⟩
    have HD2 := Aside0.mk hd2
    have HB2 := Aside0.mk (two_andd _ _ _ HB1.out hb2)
    have HGL : Aside0 (W.heap.size ≤ g) := ⟨Nat.le_trans HB1.out.size hd2.low⟩
    clear hd2 hb2
    go_wp2_with fail
    obtain ⟨g2, hg2⟩ : ∃ g2, g2 = w2.heap.size := ⟨_, rfl⟩
    have hba := (Below.refl w2.heap.size w2).alloc (Nat.le_refl _) (.cells #[.slice none 0 0, .int .i64 0] 30)
    have HE2 : Aside0 (DiskR 30 (w2.alloc (.cells #[.slice none 0 0, .int .i64 0] 30)) W.heap.size g2 (.slice none 0 0) [] 0) := ⟨by rw [hg2]; exact HB2.out.size, by rw [hg2]; exact alloc_at w2 _, Own.nil _ _ _ _, Nat.le_refl _, by simp⟩
    have HD3 := Aside0.mk (HD2.out.below hba)
    have HB3 := Aside0.mk (two_andd _ _ _ HB2.out hba)
    have HAP : Aside0 (Apart g v g2 (.slice none 0 0)) := ⟨fun k hk hf => by
      have h1 := HD2.out.footlt k hk
      rcases hf with hf | hf
      · omega
      · cases hf⟩
    have HG2L : Aside0 (W.heap.size ≤ g2) := ⟨by rw [hg2]; exact HB2.out.size⟩
    rw [← hg2]
    clear hba hg2
    obtain ⟨w3, hw3⟩ : ∃ w3, w3 = w2.alloc (.cells #[.slice none 0 0, .int .i64 0] 30) := ⟨_, rfl⟩
    rw [← hw3] at HE2 HD3 HB3 ⊢
    clear hw3
    go_loopg [5] l0.length (fun kq v5 w' => ∃ (k : Nat) (v1 v2 : Value) (X : List Int) (n : Nat), k + kq = l0.length ∧ v5 = .int .i64 k ∧ Aside0 (X.length ≤ 60 * k) ∧ Aside0 (DiskR 60 w' W.heap.size g v1 X n) ∧ Aside0 (DiskR 30 w' W.heap.size g2 v2 X n) ∧ Aside0 (Apart g v1 g2 v2) ∧ Aside0 (Below W.heap.size W w'))
    case atStart => exact ⟨0, v, _, [], 0, by omega, rfl, ⟨by simp⟩, ⟨HGL.out, HD3.out.blk, HD3.out.own, HD3.out.le, HD3.out.small⟩, HE2, HAP, HB3⟩
    case round =>
      clear HD2 HB2 HB1 HE2 HD3 HB3 HAP
      obtain ⟨k, v1, v2, X, n, hk, rfl, HXL, HD, HE, HAP, HB⟩ := hrel
      by_cases hlt : k < l0.length
      · obtain ⟨ad, A1, c1, rfl, hx0, hx1, hx2, hle, hC⟩ := at_dact HR0.out k hlt
        obtain ⟨s, hs⟩ : ∃ s, s = l0[k] := ⟨_, rfl⟩
        rw [← hs] at hx0 hx1 hx2 hle hC
        have hb60 : s.b.length ≤ 60 := by rw [hs]; exact HS.out _ (List.getElem_mem _)
        obtain ⟨act, sn, sb⟩ := s
        have HC := Aside0.mk hC
        have HSB : Aside0 (sb.length ≤ 60) := ⟨hb60⟩
        have hz0 := below_cell HB.out hx0
        have hz1 := below_cell HB.out hx1
        have hz2 := below_cell HB.out hx2
        clear hs hC hb60 hle hx0 hx1 hx2
        obtain ⟨gx, hgx⟩ : ∃ gx, gx = wr.heap.size := ⟨_, rfl⟩
        obtain ⟨wx, hwx⟩ : ∃ wx, wx = wr.alloc (.cells #[.int .i64 act, .int .i64 sn, .slice A1 sb.length c1] 32) := ⟨_, rfl⟩
        have hbx : wx.heap[gx]? = some (.cells [.int .i64 act, .int .i64 sn, .slice A1 sb.length c1].toArray 32 (0, 0)) := by rw [hwx, hgx]; exact alloc_at wr _
        have hba := (Below.refl wr.heap.size wr).alloc (Nat.le_refl _) (.cells #[.int .i64 act, .int .i64 sn, .slice A1 sb.length c1] 32)
        rw [← hwx] at hba
        have HDx := Aside0.mk (HD.out.below hba)
        have HEx := Aside0.mk (HE.out.below hba)
        have HBx := Aside0.mk (two_andd _ _ _ HB.out hba)
        have HF1 : Aside0 (∀ k, footD g v1 k → k < gx) := ⟨fun k hk => by rw [hgx]; exact HD.out.footlt k hk⟩
        have HF2 : Aside0 (∀ k, footD g2 v2 k → k < gx) := ⟨fun k hk => by rw [hgx]; exact HE.out.footlt k hk⟩
        have HBX := Aside0.mk hbx
        have HWX := Aside0.mk hwx.symm
        have HGX := Aside0.mk hgx.symm
        have hx0 : wx.cell? ⟨gx, 0, none⟩ = some (.int .i64 act) := cell_of_blk hbx
        have hx1 : wx.cell? ⟨gx, 1, none⟩ = some (.int .i64 sn) := cell_of_blk hbx
        have hx2 : wx.cell? ⟨gx, 2, none⟩ = some (.slice A1 sb.length c1) := cell_of_blk hbx
        clear hbx hwx hgx hba
        by_cases h0 : act = 0
        · subst h0
          obtain ⟨X1, hX1⟩ : ∃ X1, X1 = X ++ sb := ⟨_, rfl⟩
          have hx1l : X1.length = X.length + sb.length := by rw [hX1, List.length_append]
          have hsb := HSB.out
          have hxl := HXL.out
          have HX1 := Aside0.mk hX1
          have HXS : Aside0 (X.length + sb.length ≤ 1000000) := ⟨by omega⟩
          have HXL1 : Aside0 (X1.length ≤ 60 * (k + 1)) := ⟨by omega⟩
          have HC' : Aside0 (Kd.C (Kd.int .u8) W A1 sb.length sb) := HC
          clear hX1 hx1l hxl
          go_upto_region 11 with (fail)
          rw [HWX.out, HGX.out]
          go_wp2_with fail
          refine (lendBytes A1 c1 sb wx (Kd.C_below HC'.out HBx.out) (by omega)).mono ?_
          rintro e w4 ⟨g3, rfl, hL4, hb4⟩
          have HL4 := Aside0.mk hL4
          have HD4 := Aside0.mk (HDx.out.below hb4)
          have HE4 := Aside0.mk (HEx.out.below hb4)
          have HB4 := Aside0.mk (two_andd _ _ _ HBx.out hb4)
          have HBX4 := Aside0.mk ((hb4.block gx (blk_lt' HBX.out)).trans HBX.out)
          have LG3 : Aside0 (wx.heap.size ≤ g3) := ⟨hL4.1⟩
          have LD := Aside0.mk HDx.out.footlt
          have LE := Aside0.mk HEx.out.footlt
          clear hL4 hb4 hx0 hx1 hx2
          go_wp2_with fail
          refine (diskAppend w4 _ g v1 X n HD4.out _ _ sb (HL4.out.reads (by omega)) HXS.out).mono ?_
          rintro e w5 ⟨v5, rfl, hd5, hc5, hat5⟩
          rw [← HX1.out] at hd5
          have HD5 := Aside0.mk hd5
          have HE5 := Aside0.mk (HE4.out.ch hc5 (fun k hk h => HAP.out k h hk))
          have HB5 := Aside0.mk (Below.ch HB4.out hc5 HB4.out.size (fun k hk => Nat.le_trans HGL.out (HD4.out.foot k hk)))
          have HL5 : Aside0 (LentBytes w5 wx.heap.size g3 sb) := ⟨LG3.out, hc5.blk HL4.out.2 (fun h => by have := LD.out _ h; have := LG3.out; omega)⟩
          have hbx5 := hc5.blk HBX4.out (fun h => by have := HF1.out _ h; omega)
          have HBX5 := Aside0.mk hbx5
          have HAP5 : Aside0 (Apart g v5 g2 v2) := ⟨HAP.out.left HE4.out.footlt hat5⟩
          have LD5 : Aside0 (∀ k, footD g v5 k → k < wx.heap.size ∨ w4.heap.size ≤ k) := ⟨fun k hk => by
            rcases hk with hk | hk
            · exact .inl (LD.out k (.inl hk))
            · rcases hat5 k hk with h | h
              · exact .inl (LD.out k (.inr h))
              · exact .inr h⟩
          have G34 := Aside0.mk HL4.out.lt
          have hy2 : w5.cell? ⟨gx, 2, none⟩ = some (.slice A1 sb.length c1) := cell_of_blk hbx5
          clear hd5 hc5 hat5 hbx5
          go_wp2_with fail
          refine (refDAppend w5 _ g2 v2 X n HE5.out A1 c1 sb (Kd.C_below HC'.out HB5.out) HXS.out).mono ?_
          rintro e w6 ⟨v6, rfl, hd6, hc6, hat6⟩
          rw [← HX1.out] at hd6
          have HE6 := Aside0.mk hd6
          have HD6 := Aside0.mk (HD5.out.ch hc6 HAP5.out)
          have HB6 := Aside0.mk (Below.ch HB5.out hc6 HB5.out.size (fun k hk => Nat.le_trans HG2L.out (HE5.out.foot k hk)))
          have HL6 : Aside0 (LentBytes w6 wx.heap.size g3 sb) := ⟨LG3.out, hc6.blk HL5.out.2 (fun h => by have := LE.out _ h; have := LG3.out; omega)⟩
          have hbx6 := hc6.blk HBX5.out (fun h => by have := HF2.out _ h; omega)
          have HBX6 := Aside0.mk hbx6
          have HAP6 : Aside0 (Apart g v5 g2 v6) := ⟨HAP5.out.right HD5.out.footlt hat6⟩
          have LE6 : Aside0 (∀ k, footD g2 v6 k → k < wx.heap.size ∨ w5.heap.size ≤ k) := ⟨fun k hk => by
            rcases hk with hk | hk
            · exact .inl (LE.out k (.inl hk))
            · rcases hat6 k hk with h | h
              · exact .inl (LE.out k (.inr h))
              · exact .inr h⟩
          have G35 := Aside0.mk HL5.out.lt
          have hy3 : w6.cell? ⟨gx, 2, none⟩ = some (.slice A1 sb.length c1) := cell_of_blk hbx6
          clear hd6 hc6 hat6 hbx6 hy2
          go_wp2_with fail
          refine (keptBytes g3 A1 c1 sb sb w6 _ HL6.out (Kd.C_below HC'.out HB6.out) (by omega) true (by simp)).mono ?_
          rintro e w7 ⟨rfl, hb7⟩
          have HD7 := Aside0.mk (HD6.out.below hb7)
          have HE7 := Aside0.mk (HE6.out.below hb7)
          have HL7 := Aside0.mk (HL6.out.below hb7)
          have HB7 := Aside0.mk (two_andd _ _ _ HB6.out hb7)
          clear hb7 hy3
          go_wp2_with fail
          refine (overBytes _ sb W.heap.size w7 ((HL7.out.own (by omega)).lower HBx.out.size) HB7.out.size (by omega)).mono ?_
          rintro e w8 ⟨rfl, hg8⟩
          have hc8 := Ch.of_grown (S := fun k => k = g3) hg8 (fun k hk => by cases hk; rfl)
          have HD8 := Aside0.mk (HD7.out.ch hc8 (fun k hk h => by have a := LD5.out k hk; have b := LG3.out; have c := G34.out; omega))
          have HE8 := Aside0.mk (HE7.out.ch hc8 (fun k hk h => by have a := LE6.out k hk; have b := LG3.out; have c := G35.out; omega))
          have HB8 := Aside0.mk (Below.ch HB7.out hc8 HB7.out.size (fun k h => by have b := LG3.out; have c := HBx.out.size; omega))
          clear hc8 hg8
          have hnl := HD8.out.le
          have hxs := HD8.out.small
          go_wp2_with fail
          refine (diskBytes w8 _ g _ _ _ HD8.out).mono ?_
          rintro e w20 ⟨ub, rfl, hu20, hb20⟩
          obtain ⟨Ab, cb, rfl, _, hr20⟩ := hu20.reads
          obtain ⟨A2, c2, hv2, _, hr2⟩ := HE8.out.own.reads
          first | subst hv2 | cases hv2
          have hu21 := (hu20.lower HB8.out.size).below (below_drew1 (Below.refl _ _))
          have HU21 := Aside0.mk hu21
          have HRB := Aside0.mk (Kd.C_below hr20 (below_drew1 (Below.refl _ _)))
          have HRE := Aside0.mk (Kd.C_below (Kd.C_below hr2 hb20) (below_drew1 (Below.refl _ _)))
          have HD21 := Aside0.mk ((HD8.out.below hb20).below (below_drew1 (Below.refl _ _)))
          have HE21 := Aside0.mk ((HE8.out.below hb20).below (below_drew1 (Below.refl _ _)))
          have HB21 := Aside0.mk (below_drew1 (two_andd _ _ _ HB8.out hb20))
          have LB21 := Aside0.mk hu20.base_
          have LF1 := Aside0.mk HD8.out.footlt
          have LF2 := Aside0.mk HE8.out.footlt
          have hk0 := HE21.out.c0
          have hk1 := HE21.out.c1
          have hi0 : IntKind.i64.wrap ((X1.length : Int) - n) = (X1.length : Int) - n := i64_in' _ (by omega) (by omega)
          clear hu20 hb20 hr20 hr2 hu21
          go_wp2_with fail
          go_region_held3 (fun w' => w'.cell? ⟨g2, 0, none⟩ = some (.slice A2 X1.length c2) ∧ w'.cell? ⟨g2, 1, none⟩ = some (.int .i64 n)) (first | exact ⟨hk0, hk1⟩ | exact ⟨hk2, hk3⟩ | exact ⟨hk4, hk5⟩)
           (first
            | (go_at_call 24; refine (sameBytes _ _ X1 _ _ X1 _ HRB.out HRE.out true (by simp)).mono ?_; rintro e w22 ⟨rfl, hb22⟩; have HU22 := Aside0.mk (HU21.out.below hb22); have HD22 := Aside0.mk (HD21.out.below hb22); have HE22 := Aside0.mk (HE21.out.below hb22); have HB22 := Aside0.mk (two_andd _ _ _ HB21.out hb22); have hk2 := HE22.out.c0; have hk3 := HE22.out.c1; clear hb22)
            | (go_at_call 25; refine (diskSynced _ _ g _ _ _ HD22.out).mono ?_; rintro e w23 ⟨rfl, rfl⟩)
            | (go_at_call 26; refine (diskUnsynced _ _ g _ _ _ HD22.out).mono ?_; rintro e w24 ⟨rfl, hb24⟩; have HU24 := Aside0.mk (HU22.out.below hb24.below); have HD24 := Aside0.mk (HD22.out.below hb24.below); have HE24 := Aside0.mk (HE22.out.below hb24.below); have HB24 := Aside0.mk (two_andd _ _ _ HB22.out hb24.below); have hk4 := HE24.out.c0; have hk5 := HE24.out.c1; clear hb24))
          go_wp2_with fail
          refine (overBytes _ X1 _ w24 HU24.out HB24.out.size (by omega)).mono ?_
          rintro e w25 ⟨rfl, hg25⟩
          have hc25 := Ch.of_grown (S := fun k => (Value.slice Ab X1.length cb).ownBlock = some k) hg25 (fun k hk => hk)
          have HD25 := Aside0.mk (HD24.out.ch hc25 (fun k hk h => by have a := LF1.out k hk; have b := LB21.out k h; omega))
          have HE25 := Aside0.mk (HE24.out.ch hc25 (fun k hk h => by have a := LF2.out k hk; have b := LB21.out k h; omega))
          have HB25 := Aside0.mk (Below.ch HB24.out hc25 HB24.out.size (fun k h => Nat.le_trans HB8.out.size (LB21.out k h)))
          clear hc25 hg25
          go_wp2_with fail
          go_roundg (l0.length - (k + 1))
          case measure => omega
          case rel => exact ⟨k + 1, _, _, _, _, by omega, by go_num, HXL1, HD25, HE25, HAP6, HB25⟩
        · by_cases h1 : act = 1
          · subst h1
            have HXLx : Aside0 (X.length ≤ 60 * (k + 1)) := ⟨by have := HXL.out; omega⟩
            go_upto_region 11 with (fail)
            rw [HWX.out, HGX.out]
            go_wp2_with fail
            refine (diskSync wx _ g v1 X n HDx.out).mono ?_
            rintro e w4 ⟨rfl, hd4, hc4⟩
            have HD4 := Aside0.mk hd4
            have HE4 := Aside0.mk (HEx.out.ch hc4 (fun k hk h => HAP.out k h hk))
            have HB4 := Aside0.mk (Below.ch HBx.out hc4 HBx.out.size (fun k hk => Nat.le_trans HGL.out (HDx.out.foot k hk)))
            obtain ⟨A2, c2, rfl, _, _⟩ := HE4.out.own.reads
            have hke0 := HE4.out.c0
            have hke1 := HE4.out.c1
            have hfe1 := HE4.out.f1
            obtain ⟨w5, hw5⟩ : ∃ w5, w5 = w4.setCell ⟨g2, 1, none⟩ (.int .i64 X.length) := ⟨_, rfl⟩
            have hcs : Ch w4 w5 (fun k => k = g2) := by rw [hw5]; exact (Ch.refl w4 _).setCell _ _ rfl
            have HE5 : Aside0 (DiskR 30 w5 W.heap.size g2 (.slice A2 X.length c2) X X.length) := ⟨by rw [hw5]; exact DiskR.set1 HE4.out.low HE4.out.blk HE4.out.own (Nat.le_refl _) HE4.out.small⟩
            have HD5 := Aside0.mk (HD4.out.ch hcs (fun k hk h => HAP.out k hk (.inl h)))
            have HB5 := Aside0.mk (Below.ch HB4.out hcs HB4.out.size (fun k h => by rw [h]; exact HG2L.out))
            have HW5 := Aside0.mk hw5.symm
            clear hd4 hc4 hcs hw5 hx0 hx1 hx2
            go_upto_region 26 with (fail)
            rw [HW5.out]
            clear hke0 hke1 hfe1
            have hnl := HD5.out.le
            have hxs := HD5.out.small
            go_wp2_with fail
            refine (diskBytes w5 _ g _ _ _ HD5.out).mono ?_
            rintro e w20 ⟨ub, rfl, hu20, hb20⟩
            obtain ⟨Ab, cb, rfl, _, hr20⟩ := hu20.reads
            obtain ⟨_, _, hr2⟩ := HE5.out.own.is
            have hu21 := (hu20.lower HB5.out.size).below (below_drew1 (Below.refl _ _))
            have HU21 := Aside0.mk hu21
            have HRB := Aside0.mk (Kd.C_below hr20 (below_drew1 (Below.refl _ _)))
            have HRE := Aside0.mk (Kd.C_below (Kd.C_below hr2 hb20) (below_drew1 (Below.refl _ _)))
            have HD21 := Aside0.mk ((HD5.out.below hb20).below (below_drew1 (Below.refl _ _)))
            have HE21 := Aside0.mk ((HE5.out.below hb20).below (below_drew1 (Below.refl _ _)))
            have HB21 := Aside0.mk (below_drew1 (two_andd _ _ _ HB5.out hb20))
            have LB21 := Aside0.mk hu20.base_
            have LF1 := Aside0.mk HD5.out.footlt
            have LF2 := Aside0.mk HE5.out.footlt
            have hk0 := HE21.out.c0
            have hk1 := HE21.out.c1
            have hi0 : IntKind.i64.wrap ((X.length : Int) - X.length) = (X.length : Int) - X.length := i64_in' _ (by omega) (by omega)
            clear hu20 hb20 hr20 hr2 hu21
            go_wp2_with fail
            go_region_held3 (fun w' => w'.cell? ⟨g2, 0, none⟩ = some (.slice A2 X.length c2) ∧ w'.cell? ⟨g2, 1, none⟩ = some (.int .i64 X.length)) (first | exact ⟨hk0, hk1⟩ | exact ⟨hk2, hk3⟩ | exact ⟨hk4, hk5⟩)
             (first
              | (go_at_call 24; refine (sameBytes _ _ X _ _ X _ HRB.out HRE.out true (by simp)).mono ?_; rintro e w22 ⟨rfl, hb22⟩; have HU22 := Aside0.mk (HU21.out.below hb22); have HD22 := Aside0.mk (HD21.out.below hb22); have HE22 := Aside0.mk (HE21.out.below hb22); have HB22 := Aside0.mk (two_andd _ _ _ HB21.out hb22); have hk2 := HE22.out.c0; have hk3 := HE22.out.c1; clear hb22)
              | (go_at_call 25; refine (diskSynced _ _ g _ _ _ HD22.out).mono ?_; rintro e w23 ⟨rfl, rfl⟩)
              | (go_at_call 26; refine (diskUnsynced _ _ g _ _ _ HD22.out).mono ?_; rintro e w24 ⟨rfl, hb24⟩; have HU24 := Aside0.mk (HU22.out.below hb24.below); have HD24 := Aside0.mk (HD22.out.below hb24.below); have HE24 := Aside0.mk (HE22.out.below hb24.below); have HB24 := Aside0.mk (two_andd _ _ _ HB22.out hb24.below); have hk4 := HE24.out.c0; have hk5 := HE24.out.c1; clear hb24))
            go_wp2_with fail
            refine (overBytes _ X _ w24 HU24.out HB24.out.size (by omega)).mono ?_
            rintro e w25 ⟨rfl, hg25⟩
            have hc25 := Ch.of_grown (S := fun k => (Value.slice Ab X.length cb).ownBlock = some k) hg25 (fun k hk => hk)
            have HD25 := Aside0.mk (HD24.out.ch hc25 (fun k hk h => by have a := LF1.out k hk; have b := LB21.out k h; omega))
            have HE25 := Aside0.mk (HE24.out.ch hc25 (fun k hk h => by have a := LF2.out k hk; have b := LB21.out k h; omega))
            have HB25 := Aside0.mk (Below.ch HB24.out hc25 HB24.out.size (fun k h => Nat.le_trans HB5.out.size (LB21.out k h)))
            clear hc25 hg25
            go_wp2_with fail
            go_roundg (l0.length - (k + 1))
            case measure => omega
            case rel => exact ⟨k + 1, _, _, _, _, by omega, by go_num, HXLx, HD25, HE25, HAP, HB25⟩
          · by_cases h2 : act = 2
            · subst h2
              obtain ⟨Ad, cd, rfl, _, _⟩ := HDx.out.own.reads
              obtain ⟨j, hj⟩ : ∃ j, j = crashN X.length n sn := ⟨_, rfl⟩
              have hjl := crashN_le X.length n sn HDx.out.le
              rw [← hj] at hjl
              obtain ⟨Z, hZ⟩ : ∃ Z, Z = X.take j := ⟨_, rfl⟩
              have hZl : j = Z.length := by rw [hZ, List.length_take]; omega
              subst hZl
              have HJ := Aside0.mk hj
              have HZ := Aside0.mk hZ
              have HZL : Aside0 (Z.length ≤ 60 * (k + 1)) := ⟨by have := HXL.out; omega⟩
              clear hj hZ hjl
              go_upto_region 11 with (fail)
              rw [HWX.out, HGX.out]
              go_wp2_with fail
              refine (diskCrash wx _ g Ad _ cd X n HDx.out sn Z.length HJ.out).mono ?_
              rintro e w4 ⟨rfl, hd4, hc4⟩
              rw [← HZ.out] at hd4
              have HD4 := Aside0.mk hd4
              have HE4 := Aside0.mk (HEx.out.ch hc4 (fun k hk h => HAP.out k h hk))
              have HB4 := Aside0.mk (Below.ch HBx.out hc4 HBx.out.size (fun k hk => Nat.le_trans HGL.out (HDx.out.foot k hk)))
              have hbx4 := hc4.blk HBX.out (fun h => by have := HF1.out _ h; omega)
              have hy1 : w4.cell? ⟨gx, 1, none⟩ = some (.int .i64 sn) := cell_of_blk hbx4
              have HAP4 : Aside0 (Apart g (.slice Ad Z.length cd) g2 v2) := ⟨HAP.out.left HEx.out.footlt (fun k hk => .inl ((own_cut Ad Z.length X.length cd cd k).1 hk))⟩
              clear hd4 hc4 hbx4 hx0 hx1 hx2
              go_wp2_with fail
              refine (refDCrash w4 _ g2 v2 X n HE4.out sn Z.length HJ.out).mono ?_
              rintro e w5 ⟨v5, rfl, hd5, hc5, hat5⟩
              rw [← HZ.out] at hd5
              have HE5 := Aside0.mk hd5
              have HD5 := Aside0.mk (HD4.out.ch hc5 HAP4.out)
              have HB5 := Aside0.mk (Below.ch HB4.out hc5 HB4.out.size (fun k hk => Nat.le_trans HG2L.out (HE4.out.foot k hk)))
              have HAP5 : Aside0 (Apart g (.slice Ad Z.length cd) g2 v5) := ⟨HAP4.out.right HD4.out.footlt hat5⟩
              clear hd5 hc5 hat5 hy1
              have hnl := HD5.out.le
              have hxs := HD5.out.small
              go_wp2_with fail
              refine (diskBytes w5 _ g _ _ _ HD5.out).mono ?_
              rintro e w20 ⟨ub, rfl, hu20, hb20⟩
              obtain ⟨Ab, cb, rfl, _, hr20⟩ := hu20.reads
              obtain ⟨A2, c2, hv2, _, hr2⟩ := HE5.out.own.reads
              first | subst hv2 | cases hv2
              have hu21 := (hu20.lower HB5.out.size).below (below_drew1 (Below.refl _ _))
              have HU21 := Aside0.mk hu21
              have HRB := Aside0.mk (Kd.C_below hr20 (below_drew1 (Below.refl _ _)))
              have HRE := Aside0.mk (Kd.C_below (Kd.C_below hr2 hb20) (below_drew1 (Below.refl _ _)))
              have HD21 := Aside0.mk ((HD5.out.below hb20).below (below_drew1 (Below.refl _ _)))
              have HE21 := Aside0.mk ((HE5.out.below hb20).below (below_drew1 (Below.refl _ _)))
              have HB21 := Aside0.mk (below_drew1 (two_andd _ _ _ HB5.out hb20))
              have LB21 := Aside0.mk hu20.base_
              have LF1 := Aside0.mk HD5.out.footlt
              have LF2 := Aside0.mk HE5.out.footlt
              have hk0 := HE21.out.c0
              have hk1 := HE21.out.c1
              have hi0 : IntKind.i64.wrap ((Z.length : Int) - Z.length) = (Z.length : Int) - Z.length := i64_in' _ (by omega) (by omega)
              clear hu20 hb20 hr20 hr2 hu21
              go_wp2_with fail
              go_region_held3 (fun w' => w'.cell? ⟨g2, 0, none⟩ = some (.slice A2 Z.length c2) ∧ w'.cell? ⟨g2, 1, none⟩ = some (.int .i64 Z.length)) (first | exact ⟨hk0, hk1⟩ | exact ⟨hk2, hk3⟩ | exact ⟨hk4, hk5⟩)
               (first
                | (go_at_call 24; refine (sameBytes _ _ Z _ _ Z _ HRB.out HRE.out true (by simp)).mono ?_; rintro e w22 ⟨rfl, hb22⟩; have HU22 := Aside0.mk (HU21.out.below hb22); have HD22 := Aside0.mk (HD21.out.below hb22); have HE22 := Aside0.mk (HE21.out.below hb22); have HB22 := Aside0.mk (two_andd _ _ _ HB21.out hb22); have hk2 := HE22.out.c0; have hk3 := HE22.out.c1; clear hb22)
                | (go_at_call 25; refine (diskSynced _ _ g _ _ _ HD22.out).mono ?_; rintro e w23 ⟨rfl, rfl⟩)
                | (go_at_call 26; refine (diskUnsynced _ _ g _ _ _ HD22.out).mono ?_; rintro e w24 ⟨rfl, hb24⟩; have HU24 := Aside0.mk (HU22.out.below hb24.below); have HD24 := Aside0.mk (HD22.out.below hb24.below); have HE24 := Aside0.mk (HE22.out.below hb24.below); have HB24 := Aside0.mk (two_andd _ _ _ HB22.out hb24.below); have hk4 := HE24.out.c0; have hk5 := HE24.out.c1; clear hb24))
              go_wp2_with fail
              refine (overBytes _ Z _ w24 HU24.out HB24.out.size (by omega)).mono ?_
              rintro e w25 ⟨rfl, hg25⟩
              have hc25 := Ch.of_grown (S := fun k => (Value.slice Ab Z.length cb).ownBlock = some k) hg25 (fun k hk => hk)
              have HD25 := Aside0.mk (HD24.out.ch hc25 (fun k hk h => by have a := LF1.out k hk; have b := LB21.out k h; omega))
              have HE25 := Aside0.mk (HE24.out.ch hc25 (fun k hk h => by have a := LF2.out k hk; have b := LB21.out k h; omega))
              have HB25 := Aside0.mk (Below.ch HB24.out hc25 HB24.out.size (fun k h => Nat.le_trans HB5.out.size (LB21.out k h)))
              clear hc25 hg25
              go_wp2_with fail
              go_roundg (l0.length - (k + 1))
              case measure => omega
              case rel => exact ⟨k + 1, _, _, _, _, by omega, by go_num, HZL, HD25, HE25, HAP5, HB25⟩
            · by_cases h3 : act = 3
              · subst h3
                rcases (show (sn < 0 ∨ (X.length : Int) < sn) ∨ (0 ≤ sn ∧ sn ≤ X.length) by omega) with hno | hno
                · have HXLx : Aside0 (X.length ≤ 60 * (k + 1)) := ⟨by have := HXL.out; omega⟩
                  go_upto_region 11 with (fail)
                  rw [HWX.out, HGX.out]
                  go_wp2_with fail
                  have HDd := Aside0.mk (HDx.out.below (below_drew1 (Below.refl _ _)))
                  have HEd := Aside0.mk (HEx.out.below (below_drew1 (Below.refl _ _)))
                  have HBd := Aside0.mk (below_drew1 HBx.out)
                  have hxd : wx.drew.cell? ⟨gx, 1, none⟩ = some (.int .i64 sn) := hx1
                  go_region_held3 (fun w' => w'.cell? ⟨gx, 1, none⟩ = some (.int .i64 sn)) (first | exact hxd)
                   (first
                    | (go_at_call 21; refine (diskCut_no _ _ g _ X n HDd.out sn hno).mono ?_; rintro e w22 ⟨rfl, rfl⟩)
                    | (go_at_call 22; refine (refDCut_no _ _ g2 _ X n HEd.out sn hno).mono ?_; rintro e w23 ⟨rfl, rfl⟩))
                  have hnl := HDd.out.le
                  have hxs := HDd.out.small
                  go_wp2_with fail
                  refine (diskBytes wx.drew _ g _ _ _ HDd.out).mono ?_
                  rintro e w20 ⟨ub, rfl, hu20, hb20⟩
                  obtain ⟨Ab, cb, rfl, _, hr20⟩ := hu20.reads
                  obtain ⟨A2, c2, hv2, _, hr2⟩ := HEd.out.own.reads
                  first | subst hv2 | cases hv2
                  have hu21 := (hu20.lower HBd.out.size).below (below_drew1 (Below.refl _ _))
                  have HU21 := Aside0.mk hu21
                  have HRB := Aside0.mk (Kd.C_below hr20 (below_drew1 (Below.refl _ _)))
                  have HRE := Aside0.mk (Kd.C_below (Kd.C_below hr2 hb20) (below_drew1 (Below.refl _ _)))
                  have HD21 := Aside0.mk ((HDd.out.below hb20).below (below_drew1 (Below.refl _ _)))
                  have HE21 := Aside0.mk ((HEd.out.below hb20).below (below_drew1 (Below.refl _ _)))
                  have HB21 := Aside0.mk (below_drew1 (two_andd _ _ _ HBd.out hb20))
                  have LB21 := Aside0.mk hu20.base_
                  have LF1 := Aside0.mk HDd.out.footlt
                  have LF2 := Aside0.mk HEd.out.footlt
                  have hk0 := HE21.out.c0
                  have hk1 := HE21.out.c1
                  have hi0 : IntKind.i64.wrap ((X.length : Int) - n) = (X.length : Int) - n := i64_in' _ (by omega) (by omega)
                  clear hu20 hb20 hr20 hr2 hu21
                  go_wp2_with fail
                  go_region_held3 (fun w' => w'.cell? ⟨g2, 0, none⟩ = some (.slice A2 X.length c2) ∧ w'.cell? ⟨g2, 1, none⟩ = some (.int .i64 n)) (first | exact ⟨hk0, hk1⟩ | exact ⟨hk2, hk3⟩ | exact ⟨hk4, hk5⟩)
                   (first
                    | (go_at_call 24; refine (sameBytes _ _ X _ _ X _ HRB.out HRE.out true (by simp)).mono ?_; rintro e w22 ⟨rfl, hb22⟩; have HU22 := Aside0.mk (HU21.out.below hb22); have HD22 := Aside0.mk (HD21.out.below hb22); have HE22 := Aside0.mk (HE21.out.below hb22); have HB22 := Aside0.mk (two_andd _ _ _ HB21.out hb22); have hk2 := HE22.out.c0; have hk3 := HE22.out.c1; clear hb22)
                    | (go_at_call 25; refine (diskSynced _ _ g _ _ _ HD22.out).mono ?_; rintro e w23 ⟨rfl, rfl⟩)
                    | (go_at_call 26; refine (diskUnsynced _ _ g _ _ _ HD22.out).mono ?_; rintro e w24 ⟨rfl, hb24⟩; have HU24 := Aside0.mk (HU22.out.below hb24.below); have HD24 := Aside0.mk (HD22.out.below hb24.below); have HE24 := Aside0.mk (HE22.out.below hb24.below); have HB24 := Aside0.mk (two_andd _ _ _ HB22.out hb24.below); have hk4 := HE24.out.c0; have hk5 := HE24.out.c1; clear hb24))
                  go_wp2_with fail
                  refine (overBytes _ X _ w24 HU24.out HB24.out.size (by omega)).mono ?_
                  rintro e w25 ⟨rfl, hg25⟩
                  have hc25 := Ch.of_grown (S := fun k => (Value.slice Ab X.length cb).ownBlock = some k) hg25 (fun k hk => hk)
                  have HD25 := Aside0.mk (HD24.out.ch hc25 (fun k hk h => by have a := LF1.out k hk; have b := LB21.out k h; omega))
                  have HE25 := Aside0.mk (HE24.out.ch hc25 (fun k hk h => by have a := LF2.out k hk; have b := LB21.out k h; omega))
                  have HB25 := Aside0.mk (Below.ch HB24.out hc25 HB24.out.size (fun k h => Nat.le_trans HBd.out.size (LB21.out k h)))
                  clear hc25 hg25
                  go_wp2_with fail
                  go_roundg (l0.length - (k + 1))
                  case measure => omega
                  case rel => exact ⟨k + 1, _, _, _, _, by omega, by go_num, HXLx, HD25, HE25, HAP, HB25⟩
                · obtain ⟨Ad, cd, rfl, _, _⟩ := HDx.out.own.reads
                  obtain ⟨j, rfl⟩ := Int.eq_ofNat_of_zero_le (show 0 ≤ sn by omega)
                  have hjl : j ≤ X.length := by omega
                  obtain ⟨Z, hZ⟩ : ∃ Z, Z = X.take j := ⟨_, rfl⟩
                  have hZl : j = Z.length := by rw [hZ, List.length_take]; omega
                  subst hZl
                  have HJL := Aside0.mk hjl
                  have HZ := Aside0.mk hZ
                  have HZL : Aside0 (Z.length ≤ 60 * (k + 1)) := ⟨by have := HXL.out; omega⟩
                  clear hZ hjl hno
                  go_upto_region 11 with (fail)
                  rw [HWX.out, HGX.out]
                  go_wp2_with fail
                  have HDd := Aside0.mk (HDx.out.below (below_drew1 (Below.refl _ _)))
                  have HEd := Aside0.mk (HEx.out.below (below_drew1 (Below.refl _ _)))
                  have HBd := Aside0.mk (below_drew1 HBx.out)
                  have hxd : wx.drew.cell? ⟨gx, 1, none⟩ = some (.int .i64 Z.length) := hx1
                  have HBXd : Aside0 (wx.drew.heap[gx]? = _) := HBX
                  go_region_held3 (fun w' => w'.cell? ⟨gx, 1, none⟩ = some (.int .i64 Z.length)) (first | exact hxd | exact hxe | exact hxf)
                   (first
                    | (go_at_call 21; refine (diskCut_ok _ _ g Ad _ cd X n Z.length HDd.out HJL.out).mono ?_; rintro e w4 ⟨rfl, hd4, hc4⟩; rw [← HZ.out] at hd4; have HD4 := Aside0.mk hd4; have HE4 := Aside0.mk (HEd.out.ch hc4 (fun k hk h => HAP.out k h hk)); have HB4 := Aside0.mk (Below.ch HBd.out hc4 HBd.out.size (fun k hk => Nat.le_trans HGL.out (HDd.out.foot k hk))); have HBX4 := Aside0.mk (hc4.blk HBXd.out (fun h => by have := HF1.out _ h; omega)); have hxe : w4.cell? ⟨gx, 1, none⟩ = some (.int .i64 Z.length) := cell_of_blk HBX4.out; have HAP4 : Aside0 (Apart g (.slice Ad Z.length cd) g2 v2) := ⟨HAP.out.left HEd.out.footlt (fun k hk => .inl ((own_cut Ad Z.length X.length cd cd k).1 hk))⟩; clear hd4 hc4)
                    | (go_at_call 22; refine (refDCut_ok _ _ g2 _ X n Z.length HE4.out HJL.out).mono ?_; rintro e w5 ⟨v5, rfl, hd5, hc5, hat5⟩; rw [← HZ.out] at hd5; have HE5 := Aside0.mk hd5; have HD5 := Aside0.mk (HD4.out.ch hc5 HAP4.out); have HB5 := Aside0.mk (Below.ch HB4.out hc5 HB4.out.size (fun k hk => Nat.le_trans HG2L.out (HE4.out.foot k hk))); have hxf : w5.cell? ⟨gx, 1, none⟩ = some (.int .i64 Z.length) := cell_of_blk (hc5.blk HBX4.out (fun h => by have := HF2.out _ h; omega)); have HAP5 : Aside0 (Apart g (.slice Ad Z.length cd) g2 v5) := ⟨HAP4.out.right HD4.out.footlt hat5⟩; clear hd5 hc5 hat5))
                  have hnl := HD5.out.le
                  have hxs := HD5.out.small
                  go_wp2_with fail
                  refine (diskBytes w5 _ g _ _ _ HD5.out).mono ?_
                  rintro e w20 ⟨ub, rfl, hu20, hb20⟩
                  obtain ⟨Ab, cb, rfl, _, hr20⟩ := hu20.reads
                  obtain ⟨A2, c2, hv2, _, hr2⟩ := HE5.out.own.reads
                  first | subst hv2 | cases hv2
                  have hu21 := (hu20.lower HB5.out.size).below (below_drew1 (Below.refl _ _))
                  have HU21 := Aside0.mk hu21
                  have HRB := Aside0.mk (Kd.C_below hr20 (below_drew1 (Below.refl _ _)))
                  have HRE := Aside0.mk (Kd.C_below (Kd.C_below hr2 hb20) (below_drew1 (Below.refl _ _)))
                  have HD21 := Aside0.mk ((HD5.out.below hb20).below (below_drew1 (Below.refl _ _)))
                  have HE21 := Aside0.mk ((HE5.out.below hb20).below (below_drew1 (Below.refl _ _)))
                  have HB21 := Aside0.mk (below_drew1 (two_andd _ _ _ HB5.out hb20))
                  have LB21 := Aside0.mk hu20.base_
                  have LF1 := Aside0.mk HD5.out.footlt
                  have LF2 := Aside0.mk HE5.out.footlt
                  have hk0 := HE21.out.c0
                  have hk1 := HE21.out.c1
                  have hi0 : IntKind.i64.wrap ((Z.length : Int) - Z.length) = (Z.length : Int) - Z.length := i64_in' _ (by omega) (by omega)
                  clear hu20 hb20 hr20 hr2 hu21
                  go_wp2_with fail
                  go_region_held3 (fun w' => w'.cell? ⟨g2, 0, none⟩ = some (.slice A2 Z.length c2) ∧ w'.cell? ⟨g2, 1, none⟩ = some (.int .i64 Z.length)) (first | exact ⟨hk0, hk1⟩ | exact ⟨hk2, hk3⟩ | exact ⟨hk4, hk5⟩)
                   (first
                    | (go_at_call 24; refine (sameBytes _ _ Z _ _ Z _ HRB.out HRE.out true (by simp)).mono ?_; rintro e w22 ⟨rfl, hb22⟩; have HU22 := Aside0.mk (HU21.out.below hb22); have HD22 := Aside0.mk (HD21.out.below hb22); have HE22 := Aside0.mk (HE21.out.below hb22); have HB22 := Aside0.mk (two_andd _ _ _ HB21.out hb22); have hk2 := HE22.out.c0; have hk3 := HE22.out.c1; clear hb22)
                    | (go_at_call 25; refine (diskSynced _ _ g _ _ _ HD22.out).mono ?_; rintro e w23 ⟨rfl, rfl⟩)
                    | (go_at_call 26; refine (diskUnsynced _ _ g _ _ _ HD22.out).mono ?_; rintro e w24 ⟨rfl, hb24⟩; have HU24 := Aside0.mk (HU22.out.below hb24.below); have HD24 := Aside0.mk (HD22.out.below hb24.below); have HE24 := Aside0.mk (HE22.out.below hb24.below); have HB24 := Aside0.mk (two_andd _ _ _ HB22.out hb24.below); have hk4 := HE24.out.c0; have hk5 := HE24.out.c1; clear hb24))
                  go_wp2_with fail
                  refine (overBytes _ Z _ w24 HU24.out HB24.out.size (by omega)).mono ?_
                  rintro e w25 ⟨rfl, hg25⟩
                  have hc25 := Ch.of_grown (S := fun k => (Value.slice Ab Z.length cb).ownBlock = some k) hg25 (fun k hk => hk)
                  have HD25 := Aside0.mk (HD24.out.ch hc25 (fun k hk h => by have a := LF1.out k hk; have b := LB21.out k h; omega))
                  have HE25 := Aside0.mk (HE24.out.ch hc25 (fun k hk h => by have a := LF2.out k hk; have b := LB21.out k h; omega))
                  have HB25 := Aside0.mk (Below.ch HB24.out hc25 HB24.out.size (fun k h => Nat.le_trans HB5.out.size (LB21.out k h)))
                  clear hc25 hg25
                  go_wp2_with fail
                  go_roundg (l0.length - (k + 1))
                  case measure => omega
                  case rel => exact ⟨k + 1, _, _, _, _, by omega, by go_num, HZL, HD25, HE25, HAP5, HB25⟩
              · have HXLx : Aside0 (X.length ≤ 60 * (k + 1)) := ⟨by have := HXL.out; omega⟩
                go_upto_region 11 with (fail)
                rw [HWX.out, HGX.out]
                have e0 : (act == 0) = false := beq_eq_false_iff_ne.2 h0
                have e1 : (act == 1) = false := beq_eq_false_iff_ne.2 h1
                have e2 : (act == 2) = false := beq_eq_false_iff_ne.2 h2
                have e3 : (act == 3) = false := beq_eq_false_iff_ne.2 h3
                have hnl := HDx.out.le
                have hxs := HDx.out.small
                go_wp2_with fail
                refine (diskBytes wx _ g _ _ _ HDx.out).mono ?_
                rintro e w20 ⟨ub, rfl, hu20, hb20⟩
                obtain ⟨Ab, cb, rfl, _, hr20⟩ := hu20.reads
                obtain ⟨A2, c2, hv2, _, hr2⟩ := HEx.out.own.reads
                first | subst hv2 | cases hv2
                have hu21 := (hu20.lower HBx.out.size).below (below_drew1 (Below.refl _ _))
                have HU21 := Aside0.mk hu21
                have HRB := Aside0.mk (Kd.C_below hr20 (below_drew1 (Below.refl _ _)))
                have HRE := Aside0.mk (Kd.C_below (Kd.C_below hr2 hb20) (below_drew1 (Below.refl _ _)))
                have HD21 := Aside0.mk ((HDx.out.below hb20).below (below_drew1 (Below.refl _ _)))
                have HE21 := Aside0.mk ((HEx.out.below hb20).below (below_drew1 (Below.refl _ _)))
                have HB21 := Aside0.mk (below_drew1 (two_andd _ _ _ HBx.out hb20))
                have LB21 := Aside0.mk hu20.base_
                have LF1 := Aside0.mk HDx.out.footlt
                have LF2 := Aside0.mk HEx.out.footlt
                have hk0 := HE21.out.c0
                have hk1 := HE21.out.c1
                have hi0 : IntKind.i64.wrap ((X.length : Int) - n) = (X.length : Int) - n := i64_in' _ (by omega) (by omega)
                clear hu20 hb20 hr20 hr2 hu21
                go_wp2_with fail
                go_region_held3 (fun w' => w'.cell? ⟨g2, 0, none⟩ = some (.slice A2 X.length c2) ∧ w'.cell? ⟨g2, 1, none⟩ = some (.int .i64 n)) (first | exact ⟨hk0, hk1⟩ | exact ⟨hk2, hk3⟩ | exact ⟨hk4, hk5⟩)
                 (first
                  | (go_at_call 24; refine (sameBytes _ _ X _ _ X _ HRB.out HRE.out true (by simp)).mono ?_; rintro e w22 ⟨rfl, hb22⟩; have HU22 := Aside0.mk (HU21.out.below hb22); have HD22 := Aside0.mk (HD21.out.below hb22); have HE22 := Aside0.mk (HE21.out.below hb22); have HB22 := Aside0.mk (two_andd _ _ _ HB21.out hb22); have hk2 := HE22.out.c0; have hk3 := HE22.out.c1; clear hb22)
                  | (go_at_call 25; refine (diskSynced _ _ g _ _ _ HD22.out).mono ?_; rintro e w23 ⟨rfl, rfl⟩)
                  | (go_at_call 26; refine (diskUnsynced _ _ g _ _ _ HD22.out).mono ?_; rintro e w24 ⟨rfl, hb24⟩; have HU24 := Aside0.mk (HU22.out.below hb24.below); have HD24 := Aside0.mk (HD22.out.below hb24.below); have HE24 := Aside0.mk (HE22.out.below hb24.below); have HB24 := Aside0.mk (two_andd _ _ _ HB22.out hb24.below); have hk4 := HE24.out.c0; have hk5 := HE24.out.c1; clear hb24))
                go_wp2_with fail
                refine (overBytes _ X _ w24 HU24.out HB24.out.size (by omega)).mono ?_
                rintro e w25 ⟨rfl, hg25⟩
                have hc25 := Ch.of_grown (S := fun k => (Value.slice Ab X.length cb).ownBlock = some k) hg25 (fun k hk => hk)
                have HD25 := Aside0.mk (HD24.out.ch hc25 (fun k hk h => by have a := LF1.out k hk; have b := LB21.out k h; omega))
                have HE25 := Aside0.mk (HE24.out.ch hc25 (fun k hk h => by have a := LF2.out k hk; have b := LB21.out k h; omega))
                have HB25 := Aside0.mk (Below.ch HB24.out hc25 HB24.out.size (fun k h => Nat.le_trans HBx.out.size (LB21.out k h)))
                clear hc25 hg25
                go_wp2_with fail
                go_roundg (l0.length - (k + 1))
                case measure => omega
                case rel => exact ⟨k + 1, _, _, _, _, by omega, by go_num, HXLx, HD25, HE25, HAP, HB25⟩
      · go_wp2_with fail
        obtain ⟨A2, c2, rfl, _, hr2⟩ := HE.out.own.reads
        have HBd := Aside0.mk (below_drew1 HB.out)
        have HDd := Aside0.mk (HD.out.below (below_drew1 (Below.refl _ _)))
        have HEd := Aside0.mk (HE.out.below (below_drew1 (Below.refl _ _)))
        have hk0 := HEd.out.c0
        have HRE := Aside0.mk (Kd.C_below hr2 (below_drew1 (Below.refl _ _)))
        clear hr2
        go_region_held3 (fun w' => w'.cell? ⟨g2, 0, none⟩ = some (.slice A2 X.length c2)) (first | exact hk0 | exact hk1 | exact hk2 | exact hk3)
         (first
          | (go_at_call 23; refine (diskBytes _ _ g _ _ _ HDd.out).mono ?_; rintro e w20 ⟨ub, rfl, hu20, hb20⟩; obtain ⟨Ab, cb, rfl, _, hr20⟩ := hu20.reads; have HR20 := Aside0.mk hr20; have HRE20 := Aside0.mk (Kd.C_below HRE.out hb20); have HE20 := Aside0.mk (HEd.out.below hb20); have HB20 := Aside0.mk (two_andd _ _ _ HBd.out hb20); have hk1 := HE20.out.c0; clear hu20 hb20 hr20)
          | (go_at_call 24; refine (sameBytes _ _ X _ _ X _ HR20.out HRE20.out true (by simp)).mono ?_; rintro e w22 ⟨rfl, hb22⟩; have HE22 := Aside0.mk (HE20.out.below hb22); have HB22 := Aside0.mk (two_andd _ _ _ HB20.out hb22); have hk2 := HE22.out.c0; clear hb22)
          | (go_at_call 11; refine (awake14 _).mono ?_; rintro e w23 ⟨rfl, hb23⟩; have HE23 := Aside0.mk (HE22.out.below hb23); have HB23 := Aside0.mk (two_andd _ _ _ HB22.out hb23); have hk3 := HE23.out.c0; clear hb23))
        go_wp2_with fail
        go_ret
        exact ⟨rfl, HB23.out⟩
end Go.Proofs.Ytnnjfideeeampaa.K
