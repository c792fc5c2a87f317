/- Acts of a disk; the statement DiskKeeps. -/
import Derived.Test.YtnnjfideeeampaaD2
set_option linter.unusedVariables false
set_option linter.unusedSimpArgs false
namespace Go.Proofs.Ytnnjfideeeampaa.T
open Go.RowKit Go.Proofs.YtnnjfideeeampaaW.PrintWords Go.Proofs.YtnnjfideeeampaaW.PrintLast Go.Proofs.YtnnjfideeeampaaW.PrintMore Go.Proofs.Ytnnjfideeeampaa.U
/-- An act of a disk. -/
structure DActD where
  act : Int
  n : Int
  b : List Int
def kDAct : Kd DActD := Kd.iso (Kd.pair (Kd.int .i64) (Kd.pair (Kd.int .i64) (Kd.slice 5 (Kd.int .u8)))) (fun x => (x.act, x.n, x.b))
def GDAct (x : DActD) : Prop := (Lit.int .i64 x.act).wf = true ∧ (Lit.int .i64 x.n).wf = true ∧ ∀ y ∈ x.b, (Lit.int .u8 y).wf = true
theorem open_32 : Opens Try.prog 32 kDAct GDAct :=
  Opens.iso (Opens.struct Try.underlying32 (by kernel_rfl) (OpensF.cons (Opens.int Try.underlying3) rfl (by kernel_rfl) rfl (OpensF.cons (Opens.int Try.underlying3) rfl (by kernel_rfl) rfl (OpensF.one (Opens.slice 5 Try.underlying28 (by kernel_rfl) (Opens.int Try.underlying5)) rfl (by kernel_rfl))))) _ (fun p => ⟨p.1, p.2.1, p.2.2⟩) (fun _ => rfl)
theorem kDAct_open {w : World} {x : DActD} {cs : List Value} (h : kDAct.K w x cs) : ∃ A c, cs = [.int .i64 x.act, .int .i64 x.n, .slice A x.b.length c] ∧ x.b.length ≤ c ∧ Kd.C (Kd.int .u8) w A x.b.length x.b := by
  obtain ⟨_, _, rfl, rfl, ⟨_, _, rfl, rfl, ⟨A, c, rfl, hl, hC⟩⟩⟩ := h
  exact ⟨A, c, rfl, hl, hC⟩
end Go.Proofs.Ytnnjfideeeampaa.T
namespace Go.Proofs.Ytnnjfideeeampaa.K
open Go.RowKit Go.Proofs.YtnnjfideeeampaaW.PrintWords Go.Proofs.YtnnjfideeeampaaW.PrintLast Go.Proofs.YtnnjfideeeampaaW.PrintMore Go.Proofs.Ytnnjfideeeampaa.U Go.Proofs.Ytnnjfideeeampaa.T

theorem at_dact {w : World} {A : Option Addr} {n : Nat} {xs : List DActD} (h : Kd.C kDAct w A n xs) (k : Nat) (hk : k < xs.length) : ∃ ad A1 c1, A = some ad ∧ w.cell? (ad.add (k * 3)) = some (.int .i64 xs[k].act) ∧ w.cell? ⟨(ad.add (k * 3)).block, (ad.add (k * 3)).off + 1, none⟩ = some (.int .i64 xs[k].n) ∧ w.cell? ⟨(ad.add (k * 3)).block, (ad.add (k * 3)).off + 2, none⟩ = some (.slice A1 xs[k].b.length c1) ∧ xs[k].b.length ≤ c1 ∧ Kd.C (Kd.int .u8) w A1 xs[k].b.length xs[k].b := by
  obtain ⟨ad, c, e, hl, hK, hc⟩ := Kd.C_get h ⟨0, 0, []⟩ (k : Int) (by omega) (by have := Kd.C_len h; omega)
  obtain ⟨A1, c1, rfl, hle, hC⟩ := kDAct_open hK
  have e2 : xs.getD (k : Int).toNat ⟨0, 0, []⟩ = xs[k] := by rw [Int.toNat_natCast]; simp [List.getD_eq_getElem?_getD, hk]
  rw [e2] at hle hC hc
  have h0 := hc 0 _ rfl
  have h1 := hc 1 _ rfl
  have h2 := hc 2 _ rfl
  rw [Int.toNat_natCast] at h0 h1 h2
  exact ⟨ad, A1, c1, e, h0, (by rw [← add_add'] at h1; exact h1), (by rw [← add_add'] at h2; exact h2), hle, hC⟩

set_option maxHeartbeats 800000 in
theorem greatD (A0 : Option Addr) (c0 : Nat) (l0 : List DActD) (m : Int) (w : World) (hr0 : Kd.C kDAct w A0 l0.length l0) :
    Calls Try.prog 10 #[.slice A0 l0.length c0, .int .i64 m] w fun e w' => RetBool (fun r => r = false → (l0.length : Int) ≤ m ∧ ∀ s ∈ l0, s.b.length ≤ 60) e ∧ Below w.heap.size w w' := by
  have hm0 := Kd.C_max hr0
  have HR0 := Aside0.mk hr0
  clear hr0
  go_enter Try.func10, Try.ntmps10
  go_wp2_with fail
  go_loopg [5] l0.length (fun kq v5 w' => ∃ k : Nat, k + kq = l0.length ∧ v5 = .int .i64 k ∧ Aside0 (∀ j (hj : j < l0.length), j < k → l0[j].b.length ≤ 60) ∧ Drawn0 w w')
  case atStart => exact ⟨0, by omega, rfl, ⟨fun j hj h => by omega⟩, Drawn0.refl _⟩
  case round =>
    obtain ⟨k, hk, rfl, HA, ⟨m1, rfl⟩⟩ := hrel
    by_cases hlt : k < l0.length
    · by_cases hmost : (l0.length : Int) ≤ m
      · obtain ⟨ad, A1, c1, rfl, _, _, hc, _, hC⟩ := at_dact HR0.out k hlt
        obtain ⟨s, hs⟩ : ∃ s, s = l0[k].b := ⟨_, rfl⟩
        rw [← hs] at hc hC
        have hsz := Kd.C_max hC
        have HS := Aside0.mk hs
        clear hs hC
        by_cases hbig : 60 < s.length
        · go_wp2_with fail
          go_ret
          exact ⟨RetBool.mk true (by simp), (Drawn0.step (Drawn0.refl w) m1).below⟩
        · go_wp2_with fail
          go_roundg (l0.length - (k + 1))
          case measure => omega
          case rel => exact ⟨k + 1, by omega, by go_num, ⟨fun j hj h => by
            rcases Nat.lt_or_ge j k with h1 | h1
            · exact HA.out j hj h1
            · obtain rfl : j = k := by omega
              rw [← HS.out]
              omega⟩, Drawn0.step (Drawn0.refl w) m1⟩
      · go_wp2_with fail
        go_ret
        exact ⟨RetBool.mk true (by simp), (Drawn0.step (Drawn0.refl w) m1).below⟩
    · by_cases hmost : (l0.length : Int) ≤ m
      · go_wp2_with fail
        go_ret
        refine ⟨RetBool.mk (decide (m < (l0.length : Int))) (fun _ => ⟨hmost, fun s hs => ?_⟩), (Drawn0.step (Drawn0.refl w) m1).below⟩
        obtain ⟨j, hj, rfl⟩ := List.getElem_of_mem hs
        exact HA.out j hj (by omega)
      · go_wp2_with fail
        go_ret
        exact ⟨RetBool.mk true (by simp), (Drawn0.step (Drawn0.refl w) m1).below⟩

theorem below_cell {w w' : World} (hb : Below w.heap.size w w') {a : Addr} {v : Value} (hc : w.cell? a = some v) : w'.cell? a = some v := (hb.cell (World.block_lt_of_cell? w _ hc)).trans hc
/-- A row that is another one's no more. -/
theorem C_ch {w w' : World} {S : Nat → Prop} {A : Option Addr} {n : Nat} {xs : List Int} (h : Kd.C (Kd.int .u8) w A n xs) (hc : Ch w w' S) (hS : ∀ ad, A = some ad → ¬ S ad.block) : Kd.C (Kd.int .u8) w' A n xs := by
  obtain ⟨h1, h2, h3⟩ := h
  refine ⟨h1, h2, fun hn => ?_⟩
  obtain ⟨ad, e, hcc⟩ := h3 hn
  refine ⟨ad, e, fun j p hj => ?_⟩
  obtain ⟨c, hl, hk, hcell⟩ := hcc j p hj
  refine ⟨c, hl, hk, fun i u hu => hc.cell (hcell i u hu) ?_⟩
  have : (ad.add (j * (Kd.int .u8).sz + i)).block = ad.block := by unfold Addr.add; split <;> rfl
  rw [this]
  exact hS ad e

set_option maxRecDepth 100000 in
set_option maxHeartbeats 4000000 in
theorem diskKeeps_walk (W : World) (A0 : Option Addr) (c0 : Nat) (l0 : List DActD) (hr0 : Kd.C kDAct W A0 l0.length l0) (hc0 : l0.length ≤ c0) (hg0 : ∀ x ∈ l0, GDAct x) :
    Calls Try.prog 4 #[.slice A0 l0.length c0] W fun e w' => e = .returned (.bool true) ∧ Below W.heap.size W w' := by
  have hm0 := Kd.C_max hr0
  have HR0 := Aside0.mk hr0
  clear hr0 hg0
  go_enter Try.func4, Try.ntmps4
  go_wp2_with fail
  refine (greatD A0 c0 l0 40 W HR0.out).mono ?_
  rintro e w1 ⟨⟨r, rfl, hr⟩, hb1⟩
  cases r with
  | true =>
    go_wp2_with fail
    refine (awake14 _).mono ?_
    rintro e w6 ⟨rfl, hb6⟩
    have HB6 := Aside0.mk (two_andd _ _ _ hb1 hb6)
    clear hb1 hb6
    go_wp2_with fail
    go_ret
    exact ⟨rfl, HB6.out⟩
  | false =>
    have hl := (hr rfl).1
    have HS := Aside0.mk (hr rfl).2
    have HB1 := Aside0.mk hb1
    clear hr hb1
    go_wp2_with fail
    refine (diskNew w1).mono ?_
    rintro e w2 ⟨g, v, rfl, hd2, hb2⟩
    have HD2 := Aside0.mk hd2
    have HB2 := Aside0.mk (two_andd _ _ _ HB1.out hb2)
    have HGL : Aside0 (W.heap.size ≤ g) := ⟨Nat.le_trans HB1.out.size hd2.low⟩
    clear hd2 hb2
    go_wp2_with fail
    go_loopg [4, 5] l0.length (fun kq v4 v5 w' => ∃ (k : Nat) (vd : Value) (X : List Int), k + kq = l0.length ∧ v5 = .int .i64 k ∧ Aside0 (X.length ≤ 60 * k) ∧ Aside0 (DiskR 60 w' W.heap.size g vd X X.length) ∧ Aside0 (Own (Kd.int .u8) 5 w' W.heap.size v4 X) ∧ Aside0 (∀ k, v4.ownBlock = some k → ¬ footD g vd k) ∧ Aside0 (Below W.heap.size W w'))
    case atStart => exact ⟨0, v, [], by omega, rfl, ⟨by simp⟩, ⟨HGL.out, HD2.out.blk, HD2.out.own, HD2.out.le, HD2.out.small⟩, ⟨Own.nil _ _ _ _⟩, ⟨fun k hk => by cases hk⟩, HB2⟩
    case round =>
      clear HD2 HB2 HB1
      obtain ⟨k, vd, X, hk, rfl, HXL, HD, HV, HN, HB⟩ := hrel
      by_cases hlt : k < l0.length
      · obtain ⟨ad, A1, c1, rfl, hx0, hx1, hx2, hle, hC⟩ := at_dact HR0.out k hlt
        obtain ⟨s, hs⟩ : ∃ s, s = l0[k] := ⟨_, rfl⟩
        rw [← hs] at hx0 hx1 hx2 hle hC
        have hb60 : s.b.length ≤ 60 := by rw [hs]; exact HS.out _ (List.getElem_mem _)
        obtain ⟨act, sn, sb⟩ := s
        obtain ⟨X1, hX1⟩ : ∃ X1, X1 = X ++ sb := ⟨_, rfl⟩
        have hXl := HXL.out
        have hx1l : X1.length = X.length + sb.length := by rw [hX1, List.length_append]
        have hsb : sb.length ≤ 60 := hb60
        have HX1 := Aside0.mk hX1
        have hX1l : X1.length ≤ 60 * (k + 1) := by omega
        have hxx : X.length ≤ X1.length := by omega
        have hxs : X.length + sb.length ≤ 1000000 := by omega
        have HC := Aside0.mk hC
        have HXS := Aside0.mk hxs
        have HX1L := Aside0.mk hX1l
        have HXX := Aside0.mk hxx
        have HW0 := Aside0.mk hx0
        have HW1 := Aside0.mk hx1
        have hz2 := below_cell HB.out hx2
        clear hs hC hX1 hx1l hX1l hXl hb60 hle hxs hx0 hx1 hx2 hsb hxx
        go_wp2_with fail
        refine (diskAppend wr _ g vd X _ HD.out A1 c1 sb (Kd.C_below HC.out HB.out) HXS.out).mono ?_
        rintro e w3 ⟨v3, rfl, hd3, hc3, hat3⟩
        rw [← HX1.out] at hd3
        obtain ⟨Ad, cd, rfl, hcd, _⟩ := hd3.own.reads
        have HD3 := Aside0.mk hd3
        have HV3 := Aside0.mk (HV.out.ch (flat_int .u8) hc3 HN.out)
        have HB3 := Aside0.mk (Below.ch HB.out hc3 HB.out.size (fun k hk => Nat.le_trans HGL.out (HD.out.foot k hk)))
        have HN3 : Aside0 (∀ k, u4.ownBlock = some k → ¬ footD g (.slice Ad X1.length cd) k) := ⟨fun k hk hf => by
          rcases hf with rfl | hf
          · exact HN.out _ hk (.inl rfl)
          · rcases hat3 k hf with h | h
            · exact HN.out _ hk (.inr h)
            · have := HV.out.lt k hk
              omega⟩
        clear hd3 hc3 hat3 hz2 hcd
        go_wp2_with fail
        refine (diskBytes w3 _ g _ _ _ HD3.out).mono ?_
        rintro e w4 ⟨ua, rfl, hu4, hb4⟩
        obtain ⟨Aa, ca, rfl, _, _⟩ := hu4.reads
        have HU4 := Aside0.mk hu4
        have HD4 := Aside0.mk (HD3.out.below hb4)
        have HV4 := Aside0.mk (HV3.out.below hb4)
        have HB4 := Aside0.mk (two_andd _ _ _ HB3.out hb4)
        have HNA : Aside0 (∀ k, (Value.slice Aa X1.length ca).ownBlock = some k → ¬ footD g (.slice Ad X1.length cd) k) := ⟨fun k hk hf => by
          have h1 := HU4.out.base_ k hk
          have h2 := HD3.out.footlt k hf
          omega⟩
        have hz0 := below_cell HB4.out HW0.out
        clear hu4 hb4
        by_cases hact : act = 1
        · subst hact
          go_wp2_with fail
          refine (diskSync w4 _ g _ _ _ HD4.out).mono ?_
          rintro e w5 ⟨rfl, hd5, hc5⟩
          have HD5 := Aside0.mk hd5
          have HU5 := Aside0.mk (HU4.out.ch (flat_int .u8) hc5 HNA.out)
          have HB5 := Aside0.mk (Below.ch HB4.out hc5 HB4.out.size (fun k hk => Nat.le_trans HGL.out (HD4.out.foot k hk)))
          clear hd5 hc5 hz0
          go_wp2_with fail
          refine (diskUnsynced w5 _ g _ _ _ HD5.out).mono ?_
          rintro e w6 ⟨rfl, hb6⟩
          have HD6 := Aside0.mk (HD5.out.below hb6.below)
          have HU6 := Aside0.mk (HU5.out.below hb6.below)
          have HB6 := Aside0.mk (two_andd _ _ _ HB5.out hb6.below)
          clear hb6
          go_wp2_with fail
          refine (diskBytes w6 _ g _ _ _ HD6.out).mono ?_
          rintro e w7 ⟨ub, rfl, hu7, hb7⟩
          obtain ⟨Ab, cb, rfl, _, hr7⟩ := hu7.reads
          have HR7 := Aside0.mk hr7
          have HD7 := Aside0.mk (HD6.out.below hb7)
          have HU7 := Aside0.mk (HU6.out.below hb7)
          have HB7 := Aside0.mk (two_andd _ _ _ HB6.out hb7)
          clear hu7 hb7 hr7
          go_wp2_with fail
          refine (sameBytes _ _ X1 _ _ X1 w7 HR7.out HU7.out.is.2.2 true (by simp)).mono ?_
          rintro e w8 ⟨rfl, hb8⟩
          have HD8 := Aside0.mk (HD7.out.below hb8)
          have HU8 := Aside0.mk (HU7.out.below hb8)
          have HB8 := Aside0.mk (two_andd _ _ _ HB7.out hb8)
          clear hb8
          go_wp2_with fail
          go_roundg (l0.length - (k + 1))
          case measure => omega
          case rel => exact ⟨k + 1, _, X1, by omega, by go_num, HX1L, HD8, ⟨HU8.out.lower (Nat.le_trans HB3.out.size (Nat.le_refl _))⟩, HNA, HB8⟩
        · have hactb : (act == 1) = false := beq_eq_false_iff_ne.2 hact
          have hz1 := below_cell HB4.out HW1.out
          obtain ⟨j, hj⟩ : ∃ j, j = crashN X1.length X.length sn := ⟨_, rfl⟩
          have hjl := crashN_le X1.length X.length sn HXX.out
          rw [← hj] at hjl
          obtain ⟨Z, hZ⟩ : ∃ Z, Z = X1.take j := ⟨_, rfl⟩
          have hZl : j = Z.length := by rw [hZ, List.length_take]; omega
          subst hZl
          have HJ := Aside0.mk hj
          have HZ := Aside0.mk hZ
          obtain ⟨hj0, hj1⟩ := hjl
          have HZL : Aside0 (Z.length ≤ 60 * (k + 1)) := ⟨Nat.le_trans hj1 HX1L.out⟩
          have hi0 : (X.length : Int) ≤ Z.length := by omega
          have hi1 : (Z.length : Int) ≤ X1.length := by omega
          clear hj hZ hact
          go_wp2_with fail
          refine (diskCrash w4 _ g Ad _ cd X1 X.length HD4.out sn Z.length HJ.out).mono ?_
          rintro e w5 ⟨rfl, hd5, hc5⟩
          rw [← HZ.out] at hd5
          have HD5 := Aside0.mk hd5
          have HU5 := Aside0.mk (HU4.out.ch (flat_int .u8) hc5 HNA.out)
          have HB5 := Aside0.mk (Below.ch HB4.out hc5 HB4.out.size (fun k hk => Nat.le_trans HGL.out (HD4.out.foot k hk)))
          obtain ⟨As, cs, rfl, _, _⟩ := HV.out.reads
          clear hd5 hc5 hz0 hz1
          go_wp2_with fail
          refine (diskBytes w5 _ g _ _ _ HD5.out).mono ?_
          rintro e w6 ⟨un, rfl, hu6, hb6⟩
          obtain ⟨An, cn, rfl, _, _⟩ := hu6.reads
          have HN6 := Aside0.mk hu6
          have HD6 := Aside0.mk (HD5.out.below hb6)
          have HU6 := Aside0.mk (HU5.out.below hb6)
          have HB6 := Aside0.mk (two_andd _ _ _ HB5.out hb6)
          have HNN : Aside0 (∀ k, (Value.slice An Z.length cn).ownBlock = some k → ¬ footD g (.slice Ad Z.length cd) k) := ⟨fun k hk hf => by
            have h1 := HN6.out.base_ k hk
            have h2 := HD5.out.footlt k hf
            omega⟩
          have HCT := Aside0.mk (Kd.C_take (m := Z.length) HU6.out.is.2.2 hj1)
          rw [← HZ.out] at HCT
          have hca := HU6.out.is.2.1
          clear hu6 hb6
          go_wp2_with fail
          refine (sameBytes _ _ Z _ _ Z w6 HN6.out.is.2.2 HCT.out true (by simp)).mono ?_
          rintro e w7 ⟨rfl, hb7⟩
          have HD7 := Aside0.mk (HD6.out.below hb7)
          have HN7 := Aside0.mk (HN6.out.below hb7)
          have HB7 := Aside0.mk (two_andd _ _ _ HB6.out hb7)
          clear hb7
          go_wp2_with fail
          refine (diskUnsynced w7 _ g _ _ _ HD7.out).mono ?_
          rintro e w8 ⟨rfl, hb8⟩
          have HD8 := Aside0.mk (HD7.out.below hb8.below)
          have HN8 := Aside0.mk (HN7.out.below hb8.below)
          have HB8 := Aside0.mk (two_andd _ _ _ HB7.out hb8.below)
          clear hb8
          go_wp2_with fail
          refine (diskBytes w8 _ g _ _ _ HD8.out).mono ?_
          rintro e w9 ⟨ub, rfl, hu9, hb9⟩
          obtain ⟨Ab, cb, rfl, _, hr9⟩ := hu9.reads
          have HR9 := Aside0.mk hr9
          have HD9 := Aside0.mk (HD8.out.below hb9)
          have HN9 := Aside0.mk (HN8.out.below hb9)
          have HB9 := Aside0.mk (two_andd _ _ _ HB8.out hb9)
          clear hu9 hb9 hr9
          go_wp2_with fail
          refine (sameBytes _ _ Z _ _ Z w9 HR9.out HN9.out.is.2.2 true (by simp)).mono ?_
          rintro e w10 ⟨rfl, hb10⟩
          have HD10 := Aside0.mk (HD9.out.below hb10)
          have HN10 := Aside0.mk (HN9.out.below hb10)
          have HB10 := Aside0.mk (two_andd _ _ _ HB9.out hb10)
          clear hb10
          go_wp2_with fail
          go_roundg (l0.length - (k + 1))
          case measure => omega
          case rel => exact ⟨k + 1, _, Z, by omega, by go_num, HZL, HD10, ⟨HN10.out.lower HB5.out.size⟩, HNN, HB10⟩
      · go_wp2_with fail
        refine (awake14 _).mono ?_
        rintro e w6 ⟨rfl, hb6⟩
        have HB6 := Aside0.mk (two_andd _ _ _ HB.out hb6)
        clear hb6
        go_wp2_with fail
        go_ret
        exact ⟨rfl, HB6.out⟩
end Go.Proofs.Ytnnjfideeeampaa.K
