/- A record's body of bytes, records laid: the document's. -/
import Derived.Test.YtkgbcoijkmlmnaaR6
import Derived.Test.YtkgbcoijkmlmnaaR4
import Derived.Test.YtkgbcoijkmlmnaaKI
set_option linter.unusedVariables false
set_option linter.unusedSimpArgs false
namespace Go.Proofs.Ytkgbcoijkmlmnaa.K
open Go.RowKit Go.Proofs.YtkgbcoijkmlmnaaW.PrintWords Go.Proofs.YtkgbcoijkmlmnaaW.PrintLast Go.Proofs.YtkgbcoijkmlmnaaW.PrintMore Go.Proofs.Ytkgbcoijkmlmnaa.U Go.Proofs.Ytkgbcoijkmlmnaa.T

set_option maxHeartbeats 3200000 in
set_option maxRecDepth 100000 in
theorem refBody (x : RecD) (A1 A2 : Option Addr) (c1 c2 : Nat) (w : World) (hx : RecC w x A1 A2 c1 c2) (h1 : x.set.length ≤ 1000) (h2 : x.prs.length ≤ 1000) (h3 : ∀ y ∈ x.prs, y.key.size ≤ 1000 ∧ y.val.size ≤ 1000) :
    Calls Try.prog 64 #[recV x (.slice A1 x.set.length c1) (.slice A2 x.prs.length c2)] w fun e w' => ∃ v X, e = .returned v ∧ Own (Kd.int .u8) 5 w' w.heap.size v X ∧ Aside0 (X = bodyR x) ∧ Below w.heap.size w w' := by
  have HSM := Aside0.mk (fun k => encP_small (x.prs.take k) 1000 (fun y hy => h3 y (List.mem_of_mem_take hy)))
  have H3 := Aside0.mk h3
  have HXs := Aside0.mk hx.s
  have HXp := Aside0.mk hx.p
  have hb0 := (((Below.refl w.heap.size w).alloc (Nat.le_refl _) (.cells #[.int .i64 x.k, .int .i64 x.p, .int .i64 x.s, .int .i64 x.a, .int .i64 x.r, .slice A1 x.set.length c1, .slice A2 x.prs.length c2] 64)).alloc ((Below.refl w.heap.size w).alloc (Nat.le_refl _) _).size (.cells #[.int .i64 x.k, .int .i64 x.p, .int .i64 x.s, .int .i64 x.a, .int .i64 x.r, .int .i64 x.set.length] 3))
  have hi0 : (((w.alloc (.cells #[.int .i64 x.k, .int .i64 x.p, .int .i64 x.s, .int .i64 x.a, .int .i64 x.r, .slice A1 x.set.length c1, .slice A2 x.prs.length c2] 64)).alloc (.cells #[.int .i64 x.k, .int .i64 x.p, .int .i64 x.s, .int .i64 x.a, .int .i64 x.r, .int .i64 x.set.length] 3))).heap[w.heap.size]? = some (.cells (rawR x (.slice A1 x.set.length c1) (.slice A2 x.prs.length c2)).toArray 64 (0, 0)) := alloc_keeps (alloc_at w _) _
  have hj0 : (((w.alloc (.cells #[.int .i64 x.k, .int .i64 x.p, .int .i64 x.s, .int .i64 x.a, .int .i64 x.r, .slice A1 x.set.length c1, .slice A2 x.prs.length c2] 64)).alloc (.cells #[.int .i64 x.k, .int .i64 x.p, .int .i64 x.s, .int .i64 x.a, .int .i64 x.r, .int .i64 x.set.length] 3))).heap[w.heap.size + 1]? = some (.cells ((sixR x).map (Value.int .i64)).toArray 3 (0, 0)) := by
    have := alloc_at (w.alloc (.cells #[.int .i64 x.k, .int .i64 x.p, .int .i64 x.s, .int .i64 x.a, .int .i64 x.r, .slice A1 x.set.length c1, .slice A2 x.prs.length c2] 64)) (.cells ((sixR x).map (Value.int .i64)).toArray 3)
    rwa [World.size_alloc] at this
  have HO0 : Aside0 (Own kI 3 ((w.alloc (.cells #[.int .i64 x.k, .int .i64 x.p, .int .i64 x.s, .int .i64 x.a, .int .i64 x.r, .slice A1 x.set.length c1, .slice A2 x.prs.length c2] 64)).alloc (.cells #[.int .i64 x.k, .int .i64 x.p, .int .i64 x.s, .int .i64 x.a, .int .i64 x.r, .int .i64 x.set.length] 3)) (w.heap.size + 1) (.slice (some ⟨w.heap.size + 1, 0, none⟩) 6 6) (sixR x)) := ⟨own_nums hj0 (Nat.le_refl _) rfl (Nat.le_refl _) (by omega) (by simp [sixR]) (by simp [nums, sixR])⟩
  have HB0 := Aside0.mk hb0
  have HI0 := Aside0.mk hi0
  have hs0 : w.heap.size + 1 ≤ ((w.alloc (.cells #[.int .i64 x.k, .int .i64 x.p, .int .i64 x.s, .int .i64 x.a, .int .i64 x.r, .slice A1 x.set.length c1, .slice A2 x.prs.length c2] 64)).alloc (.cells #[.int .i64 x.k, .int .i64 x.p, .int .i64 x.s, .int .i64 x.a, .int .i64 x.r, .int .i64 x.set.length] 3)).heap.size := by rw [World.size_alloc, World.size_alloc]; omega
  have HS0 := Aside0.mk hs0
  have h6 : (sixR x).length = 6 := rfl
  have H6 := Aside0.mk h6
  have HRUN := Aside0.mk (append_own_runs Try.prog (flat_int .i64) 31 31 _ 8 Try.underlying31 info_int rfl (by decide) HO0.out A1 x.set.length c1 rfl (Kd.C_below HXs.out HB0.out) HS0.out (by rw [H6.out]; omega) (by rw [H6.out]; omega))
  clear hx h3 hi0 hj0 hb0 hs0 h6
  unfold recV
  go_enter Try.func64, Try.ntmps64
  have hP : ∀ k, (Value.slice (some ⟨w.heap.size + 1, 0, none⟩) 6 6).ownBlock = some k → w.heap.size ≠ k ∧ w.heap.size ≤ k := fun k hk => by cases hk; exact ⟨by show w.heap.size ≠ w.heap.size + 1; omega, by show w.heap.size ≤ w.heap.size + 1; omega⟩
  have HP := Aside0.mk hP
  clear hP
  go_wp2_with (first
    | (at_builtin; refine wpList_append_runs rfl _ _ _ _ rfl _ _ rfl rfl HRUN.out ?_; rintro v2 w2 ⟨hv2, hg2⟩; have HV2 := Aside0.mk hv2; have HI2 := Aside0.mk (grown_keeps hg2 HI0.out (fun k hk => (HP.out k hk).1)); have HB2 := Aside0.mk (HB0.out.grown hg2 HB0.out.size (fun k hk => (HP.out k hk).2)); have HS2 := Aside0.mk (Nat.le_trans HS0.out hg2.size); have z6 : w2.cell? ⟨w.heap.size, 6, none⟩ = some (.slice A2 x.prs.length c2) := cell_of_blk HI2.out; clear hv2 hg2)
    | (at_builtin; refine wpList_append_runs rfl _ _ _ _ rfl _ _ rfl rfl (append_one_runs Try.prog (flat_int .i64) 31 31 _ 8 Try.underlying31 info_int rfl (by decide) (x := (x.prs.length : Int)) (cs := [.int .i64 x.prs.length]) HV2.out rfl HS2.out (by rw [List.length_append, H6.out]; omega) (by rw [List.length_append, H6.out]; omega) 3 _ rfl _ rfl) ?_; rintro v3 w3 ⟨hv3, hg3⟩; have HVG3 := Aside0.mk (And.intro hv3 hg3); clear hv3 hg3))
  have HV3 := Aside0.mk HVG3.out.1
  have HI3 := Aside0.mk (grown_keeps HVG3.out.2 (alloc_keeps HI2.out _) (fun k hk => by have := HV2.out.base_ k hk; omega))
  have HB3 := Aside0.mk ((HB2.out.alloc HB2.out.size _).grown HVG3.out.2 ((HB2.out.alloc HB2.out.size _).size) (fun k hk => by have := HV2.out.base_ k hk; omega))
  obtain ⟨L, hL⟩ : ∃ L, L = sixR x ++ x.set ++ [(x.prs.length : Int)] := ⟨_, rfl⟩
  have HVL : Aside0 (Own kI 3 w3 (w.heap.size + 1) v3 L) := ⟨by rw [hL]; exact HV3.out⟩
  have HLL : Aside0 (L.length = 6 + x.set.length + 1) := ⟨by rw [hL, List.length_append, List.length_append, H6.out]; rfl⟩
  have HL := Aside0.mk hL
  clear hL HV3 z6
  obtain ⟨A4, c4, rfl, hc4, hr4⟩ := HVL.out.reads
  have HR4 := Aside0.mk hr4
  clear hr4
  go_loopg [3, 5] L.length (fun kq v3 v5 w' => ∃ (k : Nat) (X : List Int), k + kq = L.length ∧ v5 = .int .i64 k ∧ Aside0 (X = encN (L.take k)) ∧ Aside0 (Own (Kd.int .u8) 5 w' w.heap.size v3 X) ∧ Aside0 (Below w.heap.size w w') ∧ Aside0 (w'.heap[w.heap.size]? = some (.cells (rawR x (.slice A1 x.set.length c1) (.slice A2 x.prs.length c2)).toArray 64 (0, 0))) ∧ Aside0 (Kd.C kI w' A4 L.length L))
  case atStart => exact ⟨0, _, by omega, rfl, ⟨rfl⟩, ⟨Own.nil _ _ _ _⟩, HB3, HI3, HR4⟩
  case round =>
    clear HB3 HI3 HR4 HVL HB2 HI2 HV2 HS2
    obtain ⟨k, X, hk, rfl, HX, HV, HB, HI, HJ⟩ := hrel
    obtain ⟨Ax, cx, rfl, hcx, hrx⟩ := HV.out.reads
    have HRX := Aside0.mk hrx
    have hXl : X.length ≤ 8 * 1007 := by rw [HX.out, encN_length, List.length_take]; have := HLL.out; omega
    have HXl := Aside0.mk hXl
    clear hrx hXl
    have hL7 : L.length ≤ 1007 := by have := HLL.out; omega
    by_cases hlt : k < L.length
    · obtain ⟨ad, rfl, hcell⟩ := Kd.at_int HJ.out (k : Int) (by omega) (by omega)
      rw [rd_at _ _ hlt, Int.toNat_natCast] at hcell
      obtain ⟨n, hn⟩ : ∃ n, n = L[k] := ⟨_, rfl⟩
      rw [← hn] at hcell
      have HN := Aside0.mk hn
      clear hn
      go_wp2_with fail
      refine (refNum Ax cx X n wr HRX.out (by have := HXl.out; omega)).mono ?_
      rintro e w4 ⟨v4, Y, rfl, hv4, HY, hb4⟩
      have HV4 := Aside0.mk (hv4.lower HB.out.size)
      have HB4 := Aside0.mk (two_andj _ _ _ HB.out hb4)
      have HI4 := Aside0.mk ((hb4.block _ (blk_lt' HI.out)).trans HI.out)
      have HJ4 := Aside0.mk (Kd.C_below HJ.out hb4)
      clear hv4 hb4 hcell
      go_wp2_with fail
      go_roundg (L.length - (k + 1))
      case measure => omega
      case rel => exact ⟨k + 1, Y, by omega, by go_num, ⟨by rw [HY.out, HX.out, encN_snoc _ k hlt, HN.out]⟩, HV4, HB4, HI4, HJ4⟩
    · obtain rfl : k = L.length := by omega
      have HX1 : Aside0 (X = encN (sixR x) ++ encN x.set ++ bytes8 x.prs.length 8) := ⟨by rw [HX.out, List.take_length, HL.out]; simp [encN]⟩
      clear HX HJ
      go_wp2_with fail
      go_loopg [3, 6] x.prs.length (fun kq v3 v6 w' => ∃ (k : Nat) (X : List Int), k + kq = x.prs.length ∧ v6 = .int .i64 k ∧ Aside0 (X = encN (sixR x) ++ encN x.set ++ bytes8 x.prs.length 8 ++ encP (x.prs.take k)) ∧ Aside0 (Own (Kd.int .u8) 5 w' w.heap.size v3 X) ∧ Aside0 (Below w.heap.size w w') ∧ Aside0 (w'.heap[w.heap.size]? = some (.cells (rawR x (.slice A1 x.set.length c1) (.slice A2 x.prs.length c2)).toArray 64 (0, 0))))
      case atStart => exact ⟨0, X, by omega, rfl, ⟨by rw [HX1.out]; simp [encP]⟩, HV, HB, HI⟩
      case round =>
        clear HB HV HXl HRX hcx HI
        obtain ⟨k, X, hk, rfl, HX, HV, HB, HI⟩ := hrel
        obtain ⟨Ax, cx, rfl, hcx, hrx⟩ := HV.out.reads
        have HRX := Aside0.mk hrx
        have hXl : X.length ≤ 3000000 := by
          have h4 := HSM.out k
          have h5 : (2 * 1000 + 16) * (x.prs.take k).length ≤ 2016 * 1000 := Nat.mul_le_mul (Nat.le_refl _) (by rw [List.length_take]; omega)
          rw [HX.out, List.length_append, List.length_append, List.length_append, encN_length, encN_length, bytes8_length]
          simp only [sixR, List.length_cons, List.length_nil]
          omega
        have HXl := Aside0.mk hXl
        clear hrx hXl
        have z6 : wr.cell? ⟨w.heap.size, 6, none⟩ = some (.slice A2 x.prs.length c2) := cell_of_blk HI.out
        by_cases hlt : k < x.prs.length
        · obtain ⟨ad, rfl, hx0, hx1⟩ := at_pair2 (Kd.C_below HXp.out HB.out) k hlt
          obtain ⟨y, hy⟩ : ∃ y, y = x.prs[k] := ⟨_, rfl⟩
          rw [← hy] at hx0 hx1
          have HY2 := Aside0.mk hy
          have HYs := Aside0.mk (show y.key.size ≤ 1000 ∧ y.val.size ≤ 1000 by rw [hy]; exact H3.out _ (List.getElem_mem _))
          obtain ⟨a, b⟩ := y
          have hltI : (k : Int) < x.prs.length := by omega
          have hkI : (0 : Int) ≤ (k : Int) := by omega
          obtain ⟨n2, hn2⟩ : ∃ n, n = x.prs.length := ⟨_, rfl⟩
          have HN2 := Aside0.mk hn2
          clear hy
          have HT1 : Aside0 (∀ w', HeldB wr w' → Calls Try.prog 90 #[.slice Ax X.length cx, .string a] w' fun e w'' => ∃ A c Y, e = .returned (.slice A (List.length Y) c) ∧ Aside0 (Kd.C (Kd.int .u8) w'' A Y.length Y) ∧ Aside0 (Y = X ++ enc1 a) ∧ HeldB wr w'') := ⟨fun w' hw => by
            refine (refText Ax cx X a w' (Kd.C_below HRX.out hw) (by have := HXl.out; omega) (by have : a.size ≤ 1000 := HYs.out.1; omega)).mono ?_
            rintro e w'' ⟨v, Y, rfl, hO, HY, hb⟩
            obtain ⟨A, c, rfl, _, hR⟩ := hO.reads
            exact ⟨A, c, Y, rfl, ⟨hR⟩, ⟨by rw [HY.out, enc1, List.append_assoc]⟩, hw.then_ hb⟩⟩
          have HT2 : Aside0 (∀ A c (Y : List Int) w', Aside0 (Kd.C (Kd.int .u8) w' A Y.length Y) → Aside0 (Y = X ++ enc1 a) → HeldB wr w' → Calls Try.prog 90 #[.slice A Y.length c, .string b] w' fun e w'' => ∃ v Z, e = .returned v ∧ Aside0 (Own (Kd.int .u8) 5 w'' w.heap.size v Z) ∧ Aside0 (Z = X ++ enc1 a ++ enc1 b) ∧ HeldB wr w'') := ⟨fun A c Y w' hR hY hw => by
            refine (refText A c Y b w' hR.out (by rw [hY.out, List.length_append, enc1_length]; have := HXl.out; have : a.size ≤ 1000 := HYs.out.1; omega) (by have : b.size ≤ 1000 := HYs.out.2; omega)).mono ?_
            rintro e w'' ⟨v, Z, rfl, hO, HZ, hb⟩
            exact ⟨v, Z, rfl, ⟨hO.lower (Nat.le_trans HB.out.size hw.size)⟩, ⟨by rw [HZ.out, hY.out, enc1, enc1, List.append_assoc]⟩, hw.then_ hb⟩⟩
          have hk0 : ∀ w', HeldB wr w' → w'.cell? (ad.add (k * 2)) = some (.string a) ∧ w'.cell? ⟨(ad.add (k * 2)).block, (ad.add (k * 2)).off + 1, none⟩ = some (.string b) ∧ w'.cell? ⟨w.heap.size, 6, none⟩ = some (.slice (some ad) x.prs.length c2) := fun w' h =>
            ⟨(Below.cell h (World.block_lt_of_cell? wr _ hx0)).trans hx0, (Below.cell h (World.block_lt_of_cell? wr _ hx1)).trans hx1, (Below.cell h (World.block_lt_of_cell? wr _ z6)).trans z6⟩
          have HK0 := Aside0.mk hk0
          have hh0 : HeldB wr wr := Below.refl _ _
          have hhd : ∀ w', HeldB wr w' → HeldB wr w'.drew := fun w' h => h.then_ ⟨rfl, rfl, rfl, Nat.le_refl _, fun _ _ => rfl⟩
          clear hk0
          go_upto_region 12 with (fail)
          go_region_held_law (fun w' => w'.cell? (ad.add (k * 2)) = some (.string a) ∧ w'.cell? ⟨(ad.add (k * 2)).block, (ad.add (k * 2)).off + 1, none⟩ = some (.string b) ∧ w'.cell? ⟨w.heap.size, 6, none⟩ = some (.slice (some ad) x.prs.length c2)) (first | assumption | exact HK0.out _ (by first | assumption | exact hhd _ hh0))
           (first
            | (go_at_call 90; ((with_reducible refine (HT1.out _ (by first | assumption | exact hhd _ hh0)).mono ?_); rintro e w5 ⟨B5, d5, Y5, rfl, HR5, HY5, hH5⟩))
            | (go_at_call 90; ((with_reducible refine (HT2.out _ _ _ _ HR5 HY5 hH5).mono ?_); rintro e w6 ⟨v6, Z6, rfl, HO6, HZ6, hH6⟩)))
          all_goals
            have HBn := Aside0.mk (two_andj _ _ _ HB.out hH6)
            have HIn := Aside0.mk ((hH6.block _ (blk_lt' HI.out)).trans HI.out)
            clear hH5 hH6 hh0 hhd
            go_wp2_with fail
            go_roundg (x.prs.length - (k + 1))
            case measure => omega
            case rel => exact ⟨k + 1, Z6, by omega, by go_num, ⟨by rw [HZ6.out, HX.out, encP_snoc _ k hlt, ← HY2.out]; simp only [List.append_assoc]⟩, HO6, HBn, HIn⟩
        · obtain rfl : k = x.prs.length := by omega
          have HX1 : Aside0 (X = bodyR x) := ⟨by rw [HX.out, List.take_length]; rfl⟩
          go_wp2_with fail
          go_ret
          exact ⟨_, _, rfl, HV.out, HX1, HB.out⟩

set_option maxHeartbeats 3200000 in
set_option maxRecDepth 100000 in
theorem refLay (A0 : Option Addr) (c0 : Nat) (rs : List RecD) (w : World) (hr0 : Kd.C kRec w A0 rs.length rs) (hl : rs.length ≤ 1000) :
    Calls Try.prog 36 #[.slice A0 rs.length c0] w fun e w' => ∃ v X, e = .returned v ∧ Own (Kd.int .u8) 5 w' w.heap.size v X ∧ Aside0 (X = layR rs) ∧ Below w.heap.size w w' := by
  have HR0 := Aside0.mk hr0
  clear hr0
  have hu := Try.underlying64
  go_enter Try.func36, Try.ntmps36
  go_wp2_with fail
  go_loopg [3, 4] rs.length (fun kq v3 v4 w' => ∃ (k : Nat) (X : List Int), k + kq = rs.length ∧ v4 = .int .i64 k ∧ Aside0 (X = allR (rs.take k)) ∧ Aside0 (∀ y ∈ rs.take k, MayR y) ∧ Aside0 (Own (Kd.int .u8) 5 w' w.heap.size v3 X) ∧ Aside0 (Below w.heap.size w w'))
  case atStart => exact ⟨0, _, by omega, rfl, ⟨rfl⟩, ⟨by simp⟩, ⟨Own.nil _ _ _ _⟩, ⟨Below.refl _ _⟩⟩
  case round =>
    obtain ⟨k, X, hk, rfl, HX, HA, HV, HB⟩ := hrel
    obtain ⟨Ax, cx, rfl, hcx, hrx⟩ := HV.out.reads
    have HRX := Aside0.mk hrx
    have hXl : X.length ≤ 5896000 := by
      have h := allR_small (rs.take k) HA.out
      rw [List.length_take] at h
      rw [HX.out]
      omega
    have HXl := Aside0.mk hXl
    clear hrx hXl
    by_cases hlt : k < rs.length
    · obtain ⟨ad, A1, A2, c1, c2, rfl, hC, hcell⟩ := at_rec (Kd.C_below HR0.out HB.out) k hlt zeroRec
      have hat := RecAt.of hcell
      obtain ⟨x, hx⟩ : ∃ x, x = rs[k] := ⟨_, rfl⟩
      rw [← hx] at hC hat
      obtain ⟨P, hP⟩ : ∃ P, ad.add (k * 7) = P := ⟨_, rfl⟩
      rw [hP] at hat
      obtain ⟨g0, o0, q0⟩ := P
      obtain ⟨n1, hn1⟩ : ∃ n, n = x.set.length := ⟨_, rfl⟩
      obtain ⟨n2, hn2⟩ : ∃ n, n = x.prs.length := ⟨_, rfl⟩
      rw [← hn1, ← hn2] at hat
      have HAT := Aside0.mk hat
      obtain ⟨f0, f1, f2, f3, f4, f5, f6⟩ := hat
      have HX0 := Aside0.mk hx
      have HN := Aside0.mk (And.intro hn1 hn2)
      have HC := Aside0.mk hC
      obtain ⟨r, hr⟩ := bool_of (MayR x)
      have HMAY : Aside0 (Calls Try.prog 37 #[.agg #[.int .i64 x.k, .int .i64 x.p, .int .i64 x.s, .int .i64 x.a, .int .i64 x.r, .slice A1 n1 c1, .slice A2 n2 c2]] wr fun e w' => e = .returned (.bool r) ∧ Below wr.heap.size wr w') := ⟨by rw [hn1, hn2]; exact refMayRec x A1 A2 c1 c2 wr HC.out r hr⟩
      have HRM := Aside0.mk hr
      have hkI : (k : Int) < rs.length := by omega
      clear hx hn1 hn2 hC hcell hr
      go_wp2_with fail
      refine HMAY.out.mono ?_
      rintro e w2 ⟨rfl, hb2⟩
      have HB2 := Aside0.mk hb2
      clear f0 f1 f2 f3 f4 f5 f6
      cases r with
      | false =>
        have HNO : Aside0 (layR rs = []) := ⟨by
          unfold layR
          rw [if_neg]
          intro h
          have h2 := HRM.out.2 (by rw [HX0.out]; exact h _ (List.getElem_mem _))
          cases h2⟩
        clear hb2
        go_wp2_with fail
        go_ret
        exact ⟨_, _, rfl, Own.nil _ _ _ _, ⟨HNO.out.symm⟩, two_andj _ _ _ HB.out HB2.out⟩
      | true =>
        have HM := Aside0.mk (HRM.out.1 rfl)
        have HBD : Aside0 (Calls Try.prog 64 #[.agg #[.int .i64 x.k, .int .i64 x.p, .int .i64 x.s, .int .i64 x.a, .int .i64 x.r, .slice A1 n1 c1, .slice A2 n2 c2]] w2 fun e w' => ∃ A c Y, e = .returned (.slice A (List.length Y) c) ∧ Kd.C (Kd.int .u8) w' A Y.length Y ∧ Aside0 (Y = bodyR x) ∧ Below w2.heap.size w2 w') := ⟨by
          rw [HN.out.1, HN.out.2]
          have h6 := mayR_small HM.out
          refine (refBody x A1 A2 c1 c2 w2 (HC.out.below hb2) (by omega) (by omega) (fun y hy => by have := h6.2.2 y hy; omega)).mono ?_
          rintro e w' ⟨v, Y, rfl, hO, HY, hb⟩
          obtain ⟨A, c, rfl, _, hR⟩ := hO.reads
          exact ⟨A, c, Y, rfl, hR, HY, hb⟩⟩
        obtain ⟨f0, f1, f2, f3, f4, f5, f6⟩ := HAT.out.below hb2
        clear hb2
        go_wp2_with fail
        refine HBD.out.mono ?_
        rintro e w3 ⟨A3, c3, Y3, rfl, hR3, HY3, hb3⟩
        have HR3 := Aside0.mk hR3
        have HB3 := Aside0.mk (two_andj _ _ _ HB2.out hb3)
        have HL3 : Aside0 (Y3.length ≤ 5888) := ⟨by rw [HY3.out]; exact (recB_small HM.out).1⟩
        clear hR3 hb3 f0 f1 f2 f3 f4 f5 f6
        go_wp2_with fail
        refine (refNum Ax cx X Y3.length w3 (Kd.C_below HRX.out HB3.out) (by have := HXl.out; omega)).mono ?_
        rintro e w5 ⟨v5, Y5, rfl, hO5, HY5, hb5⟩
        have HO5 := Aside0.mk (hO5.lower (Nat.le_trans HB.out.size HB3.out.size))
        have HB5 := Aside0.mk (two_andj _ _ _ HB.out (two_andj _ _ _ HB3.out hb5))
        have HR5 := Aside0.mk (Kd.C_below HR3.out hb5)
        have HL5 : Aside0 (Y5.length ≤ 5896008) := ⟨by rw [HY5.out, List.length_append, bytes8_length]; have := HXl.out; omega⟩
        clear hO5 hb5
        go_wp2_with (at_builtin; refine wpList_append_runs rfl _ _ _ _ rfl _ _ rfl rfl (append_own_runs Try.prog (flat_int .u8) 52 _ _ 1 Try.underlying52 info_u8 rfl (by decide) HO5.out A3 Y3.length c3 rfl HR5.out HB5.out.size (by have := HL3.out; have := HL5.out; omega) (by have := HL3.out; have := HL5.out; omega)) ?_; rintro v6 w6 ⟨hv6, hg6⟩; have HV6 := Aside0.mk hv6; have HB6 := Aside0.mk (HB5.out.grown hg6 HB5.out.size HO5.out.base_); clear hv6 hg6)
        go_roundg (rs.length - (k + 1))
        case measure => omega
        case rel =>
          refine ⟨k + 1, _, by omega, by go_num, ⟨?_⟩, ⟨?_⟩, HV6, HB6⟩
          · rw [HY5.out, HX.out, allR_snoc _ k hlt, ← HX0.out, recB, HY3.out, List.append_assoc]
          · intro y hy
            rw [List.take_succ_eq_append_getElem hlt] at hy
            rcases List.mem_append.1 hy with hy | hy
            · exact HA.out y hy
            · obtain rfl := List.mem_singleton.1 hy
              rw [← HX0.out]
              exact HM.out
    · obtain rfl : k = rs.length := by omega
      have HX1 : Aside0 (X = layR rs) := ⟨by
        have h := HA.out
        rw [List.take_length] at h
        rw [HX.out, List.take_length, layR, if_pos h]⟩
      go_wp2_with fail
      go_ret
      exact ⟨_, _, rfl, HV.out, HX1, HB.out⟩
end Go.Proofs.Ytkgbcoijkmlmnaa.K
