/- Records that are too great; what every program of records answers. -/
import Derived.Test.YtkgbcoijkmlmnaaR12
import Derived.Test.YtkgbcoijkmlmnaaR8
set_option linter.unusedVariables false
set_option linter.unusedSimpArgs false
set_option maxRecDepth 100000
namespace Go.Proofs.Ytkgbcoijkmlmnaa.K
open Go.RowKit Go.Proofs.YtkgbcoijkmlmnaaW.PrintWords Go.Proofs.YtkgbcoijkmlmnaaW.PrintLast Go.Proofs.YtkgbcoijkmlmnaaW.PrintMore Go.Proofs.Ytkgbcoijkmlmnaa.U Go.Proofs.Ytkgbcoijkmlmnaa.T

def SmallR (x : RecD) : Prop := x.set.length ≤ 20 ∧ (x.prs.length : Int) ≤ 50 ∧ ∀ s ∈ x.prs, s.key.size ≤ 100 ∧ s.val.size ≤ 100
set_option maxHeartbeats 1600000 in
theorem greatRecords (A0 : Option Addr) (c0 : Nat) (l0 : List RecD) (m : Int) (w : World) (hr0 : Kd.C kRec w A0 l0.length l0) (hg0 : ∀ s ∈ l0, GRec s) :
    Calls Try.prog 32 #[.slice A0 l0.length c0, .int .i64 m] w fun e w' => RetBool (fun r => r = false → (l0.length : Int) ≤ m ∧ ∀ s ∈ l0, SmallR s) e ∧ Below w.heap.size w w' := by
  have hm0 := Kd.C_max hr0
  have HR0 := Aside0.mk hr0
  have HG0 := Aside0.mk hg0
  clear hr0 hg0
  have hu := Try.underlying64
  go_enter Try.func32, Try.ntmps32
  go_wp2_with fail
  go_loopg [5] l0.length (fun kq v5 w' => ∃ k : Nat, k + kq = l0.length ∧ v5 = .int .i64 k ∧ Aside0 (∀ j (hj : j < l0.length), j < k → SmallR l0[j]) ∧ Aside0 (Below w.heap.size w w'))
  case atStart => exact ⟨0, by omega, rfl, ⟨fun j hj h => by omega⟩, ⟨Below.refl _ _⟩⟩
  case round =>
    obtain ⟨k, hk, rfl, HA, HB⟩ := hrel
    by_cases hlt : k < l0.length
    · by_cases hmost : (l0.length : Int) ≤ m
      · obtain ⟨ad, A1, A2, c1, c2, rfl, hC, hcell⟩ := at_rec (Kd.C_below HR0.out HB.out) k hlt zeroRec
        have hat := RecAt.of hcell
        obtain ⟨x, hx⟩ : ∃ x, x = l0[k] := ⟨_, rfl⟩
        rw [← hx] at hC hat
        obtain ⟨P, hP⟩ : ∃ P, ad.add (k * 7) = P := ⟨_, rfl⟩
        rw [hP] at hat
        obtain ⟨g0, o0, q0⟩ := P
        have hgx : GRec x := by rw [hx]; exact HG0.out _ (List.getElem_mem _)
        have HGP := Aside0.mk hgx.2.2.2.2.2.2
        have HX := Aside0.mk hx
        have HC := Aside0.mk hC
        have f5 := hat.c5
        have f6 := hat.c6
        have hkI : (k : Int) < l0.length := by omega
        clear hx hC hcell hat hgx
        by_cases hbig : 20 < x.set.length
        · have hb' : (20 : Int) < x.set.length := by omega
          go_wp2_with fail
          go_ret
          exact ⟨RetBool.mk true (by simp), HB.out⟩
        · have hb' : ¬ (20 : Int) < x.set.length := by omega
          go_wp2_with fail
          refine (greatPairs A2 c2 x.prs 50 wr HC.out.p HGP.out).mono ?_
          rintro e w1 ⟨⟨r, rfl, hr⟩, hb1⟩
          have HB1 := Aside0.mk (two_andj _ _ _ HB.out hb1)
          have HR := Aside0.mk hr
          clear hr hb1
          cases r with
          | true =>
            go_wp2_with fail
            go_ret
            exact ⟨RetBool.mk true (by simp), HB1.out⟩
          | false =>
            have HSM : Aside0 (SmallR x) := ⟨by omega, HR.out rfl⟩
            go_wp2_with fail
            go_roundg (l0.length - (k + 1))
            case measure => omega
            case rel => exact ⟨k + 1, by omega, by go_num, ⟨fun j hj h => by
              rcases Nat.lt_or_ge j k with h1 | h1
              · exact HA.out j hj h1
              · obtain rfl : j = k := by omega
                rw [← HX.out]
                exact HSM.out⟩, HB1⟩
      · go_wp2_with fail
        go_ret
        exact ⟨RetBool.mk true (by simp), HB.out⟩
    · by_cases hmost : (l0.length : Int) ≤ m
      · go_wp2_with fail
        go_ret
        refine ⟨RetBool.mk (decide (m < (l0.length : Int))) (fun _ => ⟨hmost, fun s hs => ?_⟩), HB.out⟩
        obtain ⟨j, hj, rfl⟩ := List.getElem_of_mem hs
        exact HA.out j hj (by omega)
      · go_wp2_with fail
        go_ret
        exact ⟨RetBool.mk true (by simp), HB.out⟩

/-! ### awake -/
def life : RecD := ⟨6, 0, 0, 0, 0, [], []⟩
theorem may_life : MayR life := .inr (.inl ⟨.inr rfl, rfl, rfl, rfl, rfl, rfl, rfl⟩)
theorem may_zero : ¬ MayR zeroRec := by decide
theorem nilC {α : Type} (d : Kd α) (w : World) : Kd.C d w none 0 [] := ⟨rfl, by omega, fun h => by omega⟩
theorem lifeC (w : World) {g : Nat} {t : TypeId} {fr : Nat × Nat} (h : w.heap[g]? = some (.cells (rawR life (.slice none 0 0) (.slice none 0 0)).toArray t fr)) : Kd.C kRec w (some ⟨g, 0, none⟩) 1 [life] := by
  refine ⟨rfl, by show 1 ≤ 9223372036854775807; omega, fun _ => ⟨_, rfl, fun j y hj => ?_⟩⟩
  have hj0 : j = 0 ∧ life = y := by
    cases j with
    | zero => simpa using hj
    | succ j => simp at hj
  obtain ⟨rfl, rfl⟩ := hj0
  refine ⟨_, rfl, kRec_mk (x := life) (A1 := none) (A2 := none) (c1 := 0) (c2 := 0) ⟨nilC _ _, nilC _ _, Nat.le_refl _, Nat.le_refl _⟩, fun i u hu => ?_⟩
  rw [show 0 * kRec.sz + i = i from by rw [Nat.zero_mul, Nat.zero_add]]
  exact cells_of_blk h i u hu
theorem lay_life : layR [life] = recB life := by
  rw [layR, if_pos (fun x hx => by obtain rfl := List.mem_singleton.1 hx; exact may_life)]
  simp [allR]
theorem life_len : (recB life).length = 64 := by kernel_rfl
theorem life_7 : rd (recB life) 7 = 56 := by kernel_rfl
theorem life_15 : rd (recB life) 15 = 6 := by kernel_rfl
theorem read_life : ReadF (recB life ++ [0, 0, 9]) [life] 64 := by
  have h := read_all [life] (fun x hx => by obtain rfl := List.mem_singleton.1 hx; exact may_life) [0, 0, 9] (one_few _ (by decide))
  have e : allR [life] = recB life := by simp [allR]
  rwa [e, life_len] at h
set_option maxHeartbeats 3200000 in
theorem awake15 (w : World) : Calls Try.prog 25 #[] w fun e w' => e = .returned (.bool true) ∧ Below w.heap.size w w' := by
  have hu := Try.underlying64
  obtain ⟨wA, hwA⟩ : ∃ wA, wA = w.alloc (.cells #[.int .i64 6, .int .i64 0, .int .i64 0, .int .i64 0, .int .i64 0, .slice none 0 0, .slice none 0 0] 64) := ⟨_, rfl⟩
  have hbA : Below w.heap.size w wA := by rw [hwA]; exact (Below.refl _ _).alloc (Nat.le_refl _) _
  have hcA := lifeC wA (g := w.heap.size) (by rw [hwA]; exact alloc_at w (.cells (rawR life (.slice none 0 0) (.slice none 0 0)).toArray 64))
  have HLAY := Aside0.mk (layM (some ⟨w.heap.size, 0, none⟩) 1 [life] wA hcA (by decide))
  have HWA := Aside0.mk hwA
  have HBA := Aside0.mk hbA
  clear hwA hbA hcA
  go_enter Try.func25, Try.ntmps25
  go_wp2_with fail
  rw [← HWA.out]
  refine HLAY.out.mono ?_
  rintro e w1 ⟨v1, X, rfl, hO1, HX1, hb1⟩
  have hX1 : X = recB life := HX1.out.trans lay_life
  subst hX1
  obtain ⟨A1, c1, rfl, hc1, hr1⟩ := hO1.reads
  have HR1 := Aside0.mk hr1
  rw [life_len] at hc1 HR1 ⊢
  have HB1 := Aside0.mk (two_andj _ _ _ HBA.out hb1)
  have HLL : Aside0 ((recB life).length = 64) := ⟨life_len⟩
  obtain ⟨L, hL⟩ : ∃ L, L = recB life := ⟨_, rfl⟩
  rw [← hL] at HR1 HLL
  have HL := Aside0.mk hL
  clear hO1 hr1 hb1 HX1 hL
  have HR1' : Aside0 (Kd.C (Kd.int .u8) w1 A1 L.length L) := ⟨by rw [HLL.out]; exact HR1.out⟩
  have H7 : Aside0 (∀ w', Below w1.heap.size w1 w' → ∃ ad, A1 = some ad ∧ w'.cell? ⟨ad.block, ad.off + 7, none⟩ = some (.int .u8 56) ∧ w'.cell? ⟨ad.block, ad.off + 15, none⟩ = some (.int .u8 6)) := ⟨fun w' hw => by
    obtain ⟨ad, rfl, h7⟩ := Kd.at_int (Kd.C_below HR1'.out hw) (7 : Int) (by omega) (by rw [HLL.out]; decide)
    obtain ⟨ad', e, h15⟩ := Kd.at_int (Kd.C_below HR1'.out hw) (15 : Int) (by omega) (by rw [HLL.out]; decide)
    cases e
    rw [HL.out, life_7] at h7
    rw [HL.out, life_15] at h15
    exact ⟨ad, rfl, h7, h15⟩⟩
  go_wp2_with (first
    | (at_builtin; refine wpList_append_runs rfl _ _ _ _ rfl _ _ rfl rfl (append_own_runs Try.prog (flat_int .u8) 52 _ _ 1 Try.underlying52 info_u8 rfl (by decide) (Own.nil (Kd.int .u8) 5 w1 w1.heap.size) A1 64 c1 HLL.out.symm HR1'.out (Nat.le_refl _) (by rw [HLL.out]; decide) (by rw [HLL.out]; decide)) ?_; rintro v2 w2 ⟨hv2, hg2⟩; have HV2 := Aside0.mk hv2; have HB2 := Aside0.mk ((Below.refl w1.heap.size w1).grown hg2 (Nat.le_refl _) (fun k hk => by cases hk)); clear hv2 hg2)
    | (at_builtin; refine wpList_append_runs rfl _ _ _ _ rfl _ _ rfl rfl (append_own_runs Try.prog (flat_int .u8) 52 _ _ 1 Try.underlying52 info_u8 rfl (by decide) (w := w2.alloc (.cells #[.int .u8 0, .int .u8 0, .int .u8 9] 5)) (HV2.out.below ((Below.refl _ _).alloc (Nat.le_refl _) _)) (ys := [0, 0, 9]) (some ⟨w2.heap.size, 0, none⟩) 3 3 rfl (C_of_blk (cs := nums .u8 [0, 0, 9]) (alloc_at w2 _) ⟨[], by simp⟩ (by decide)) (Nat.le_trans HB2.out.size ((Below.refl w2.heap.size w2).alloc (Nat.le_refl _) _).size) (by rw [List.length_append, HLL.out]; decide) (by rw [List.length_append, HLL.out]; decide)) ?_; rintro v3 w3 ⟨hv3, hg3⟩; have HV3 := Aside0.mk hv3; have HB3 := Aside0.mk ((HB2.out.alloc HB2.out.size _).grown hg3 (HB2.out.alloc HB2.out.size _).size HV2.out.base_); clear hv3 hg3))
  obtain ⟨M, hM⟩ : ∃ M, M = [] ++ L ++ [0, 0, 9] := ⟨_, rfl⟩
  have hv3 := HV3.out
  rw [← hM] at hv3
  have hM2 : M = recB life ++ [0, 0, 9] := by rw [hM, List.nil_append, HL.out]
  have hMl : M.length = 67 := by rw [hM2, List.length_append, life_len]; rfl
  obtain ⟨A3, c3, rfl, hc3, hr3⟩ := hv3.reads
  have HREAD := Aside0.mk (readM A3 c3 M w3 hr3 hc3 (by omega))
  have HM2 := Aside0.mk hM2
  clear hv3 hM hMl hM2 hc3 hr3 HV3
  refine HREAD.out.mono ?_
  rintro e w4 ⟨v4, n, zs, ow, rfl, hP, hF, _, _, _, hb4⟩
  have hF' := hF.out
  rw [HM2.out] at hF'
  obtain ⟨hz, rfl⟩ := hF'.unique read_life
  obtain ⟨A4, c4, rfl, hC4⟩ := hP.reads
  have hzl : zs.length = 1 := by have := congrArg List.length hz; rwa [List.length_map] at this
  rw [hz, hzl] at hC4
  rw [hzl]
  have HB4 := Aside0.mk (two_andj _ _ _ HB3.out hb4)
  obtain ⟨ad, rfl, h7, h15⟩ := H7.out w4 HB4.out
  obtain ⟨w5, hw5⟩ : ∃ w5, w5 = w4.alloc (.cells #[.int .i64 6, .int .i64 0, .int .i64 0, .int .i64 0, .int .i64 0, .slice none 0 0, .slice none 0 0] 64) := ⟨_, rfl⟩
  have hb5 : Below w4.heap.size w4 w5 := by rw [hw5]; exact (Below.refl _ _).alloc (Nat.le_refl _) _
  have hc5 := lifeC w5 (g := w4.heap.size) (by rw [hw5]; exact alloc_at w4 (.cells (rawR life (.slice none 0 0) (.slice none 0 0)).toArray 64))
  have HSAME := Aside0.mk (sameRecords A4 c4 [life] (some ⟨w4.heap.size, 0, none⟩) 1 [life] w5 (Kd.C_below hC4 hb5) hc5 (by decide) true (by simp))
  have HB5 := Aside0.mk (two_andj _ _ _ (below_then HB1.out HB1.out.size HB4.out) hb5)
  have HW5 := Aside0.mk hw5
  have h64 : (((64 : Nat) : Int) == 64) = true := by decide
  clear hF hF' hz hP hzl hC4 hw5 hb5 hc5 hb4
  go_wp2_with fail
  rw [← HW5.out]
  refine HSAME.out.mono ?_
  rintro e w6 ⟨rfl, hb6⟩
  have HB6 := Aside0.mk (two_andj _ _ _ HB5.out hb6)
  have HMAY := Aside0.mk (mayRec zeroRec none none 0 0 w6 ⟨nilC _ _, nilC _ _, Nat.le_refl _, Nat.le_refl _⟩ false ⟨(fun h => by cases h), fun h => absurd h may_zero⟩)
  clear hb6 h7 h15
  go_wp2_with fail
  refine HMAY.out.mono ?_
  rintro e w7 ⟨rfl, hb7⟩
  have HB7 := Aside0.mk (two_andj _ _ _ HB6.out hb7)
  clear hb7
  go_wp2_with fail
  go_ret
  exact ⟨rfl, HB7.out⟩
end Go.Proofs.Ytkgbcoijkmlmnaa.K
