/- The statement CutFewer. -/
import Derived.Test.YtocooepdibgelaaC6
set_option linter.unusedVariables false
set_option linter.unusedSimpArgs false
namespace Go.Proofs.Ytocooepdibgelaa.K
open Go.RowKit Go.Proofs.YtocooepdibgelaaW.PrintWords Go.Proofs.YtocooepdibgelaaW.PrintLast Go.Proofs.YtocooepdibgelaaW.PrintMore Go.Proofs.Ytocooepdibgelaa.U Go.Proofs.Ytocooepdibgelaa.T

theorem chunksN_size (n s t : Int) (h1 : 1 ≤ s) (h2 : s ≤ t) : chunksN n t ≤ chunksN n s := by
  unfold chunksN
  by_cases h : n < 1
  · rw [if_pos (.inl h), if_pos (.inl h)]; omega
  · rw [if_neg (by omega), if_neg (by omega)]
    have h3 : (n - 1) / t ≤ (n - 1) / s := by
      refine (Int.le_ediv_iff_mul_le (by omega)).2 ?_
      have h4 : (n - 1) / t * t ≤ n - 1 := Int.ediv_mul_le _ (by omega)
      have h5 : 0 ≤ (n - 1) / t := Int.ediv_nonneg (by omega) (by omega)
      have h6 : (n - 1) / t * s ≤ (n - 1) / t * t := Int.mul_le_mul_of_nonneg_left h2 h5
      omega
    omega
theorem chunksN_more (n m s : Int) (h1 : 1 ≤ s) (h2 : n ≤ m) : chunksN n s ≤ chunksN m s := by
  unfold chunksN
  by_cases h : n < 1
  · rw [if_pos (.inl h)]
    split
    · omega
    · have h5 : 0 ≤ (m - 1) / s := Int.ediv_nonneg (by omega) (by omega)
      omega
  · rw [if_neg (by omega), if_neg (by omega)]
    have h3 : (n - 1) / s ≤ (m - 1) / s := Int.ediv_le_ediv (by omega) (by omega)
    omega
theorem chunksN_enough (n s : Int) (h1 : 1 ≤ s) : n ≤ chunksN n s * s ∧ (0 < chunksN n s → (chunksN n s - 1) * s < n) := by
  unfold chunksN
  by_cases h : n < 1
  · rw [if_pos (.inl h)]; omega
  · rw [if_neg (by omega)]
    have h2 := Int.emod_add_mul_ediv (n - 1) s
    have h3 := Int.emod_lt_of_pos (n - 1) (show 0 < s by omega)
    have h4 := Int.emod_nonneg (n - 1) (show s ≠ 0 by omega)
    have h5 : ((n - 1) / s + 1) * s = s * ((n - 1) / s) + s := by rw [Int.add_mul, Int.mul_comm]; omega
    have h6 : ((n - 1) / s + 1 - 1) * s = s * ((n - 1) / s) := by rw [Int.add_sub_cancel, Int.mul_comm]
    rw [h5, h6]
    omega

set_option maxHeartbeats 3200000 in
theorem cutFewer_walk (W : World) (n : Int) (wn : (Lit.int .i64 n).wf = true) (size : Int) (wsize : (Lit.int .i64 size).wf = true) (more : Int) (wmore : (Lit.int .i64 more).wf = true) (attempt : Int) (wattempt : (Lit.int .i64 attempt).wf = true) :
    Calls Try.prog 14 #[.int .i64 n, .int .i64 size, .int .i64 more, .int .i64 attempt] W fun e w' => e = .returned (.bool true) ∧ Below W.heap.size W w' := by
  clear wn wsize wmore wattempt
  obtain ⟨n1, hn1⟩ : ∃ q, q = lowN n 200 := ⟨_, rfl⟩
  obtain ⟨s0, hs0⟩ : ∃ q, q = lowN size 20 := ⟨_, rfl⟩
  obtain ⟨m1, hm1⟩ : ∃ q, q = lowN more 20 := ⟨_, rfl⟩
  obtain ⟨a0, ha0⟩ : ∃ q, q = lowN attempt 100 := ⟨_, rfl⟩
  have rn : 0 ≤ n1 ∧ n1 < 200 := by rw [hn1]; exact lowN_range _ _ (by omega)
  have rs : 0 ≤ s0 ∧ s0 < 20 := by rw [hs0]; exact lowN_range _ _ (by omega)
  have rm : 0 ≤ m1 ∧ m1 < 20 := by rw [hm1]; exact lowN_range _ _ (by omega)
  have ra : 0 ≤ a0 ∧ a0 < 100 := by rw [ha0]; exact lowN_range _ _ (by omega)
  obtain ⟨rn0, rn1⟩ := rn
  obtain ⟨rs0, rs1⟩ := rs
  obtain ⟨rm0, rm1⟩ := rm
  obtain ⟨ra0, ra1⟩ := ra
  have HN1 := Aside0.mk hn1
  have HS0 := Aside0.mk hs0
  have HM1 := Aside0.mk hm1
  have HA0 := Aside0.mk ha0
  clear hn1 hs0 hm1 ha0
  obtain ⟨k, hk⟩ : ∃ k, k = chunksN n1 (1 + s0) := ⟨_, rfl⟩
  obtain ⟨k1, hk1⟩ : ∃ k, k = chunksN n1 (1 + s0 + m1) := ⟨_, rfl⟩
  obtain ⟨k2, hk2⟩ : ∃ k, k = chunksN (n1 + m1) (1 + s0) := ⟨_, rfl⟩
  obtain ⟨k3, hk3⟩ : ∃ k, k = chunksN n1 (1 + s0 + 1) := ⟨_, rfl⟩
  have l1 : k1 ≤ k := by rw [hk1, hk]; exact chunksN_size _ _ _ (by omega) (by omega)
  have l2 : k ≤ k2 := by rw [hk2, hk]; exact chunksN_more _ _ _ (by omega) (by omega)
  have l3 : k3 ≤ k := by rw [hk3, hk]; exact chunksN_size _ _ _ (by omega) (by omega)
  have l4 := chunksN_enough n1 (1 + s0) (by omega)
  rw [← hk] at l4
  have kr : 0 ≤ k ∧ k ≤ n1 := by
    rw [hk]
    unfold chunksN
    split
    · omega
    · have h1 : 0 ≤ (n1 - 1) / (1 + s0) := Int.ediv_nonneg (by omega) (by omega)
      have h2 : (n1 - 1) / (1 + s0) ≤ n1 - 1 := Int.ediv_le_self _ (by omega)
      omega
  obtain ⟨kr0, kr1⟩ := kr
  obtain ⟨p, hp⟩ : ∃ p, k * (1 + s0) = p := ⟨_, rfl⟩
  obtain ⟨p2, hp2⟩ : ∃ p, (k - 1) * (1 + s0) = p := ⟨_, rfl⟩
  rw [hp, hp2] at l4
  obtain ⟨l5, l6⟩ := l4
  have hpb : p ≤ 200 * 20 := by
    rw [← hp]
    have h1 : k * (1 + s0) ≤ k * 20 := Int.mul_le_mul_of_nonneg_left (by omega) kr0
    omega
  have hp2e : p2 = p - (1 + s0) := by rw [← hp2, ← hp, Int.sub_mul, Int.one_mul]
  have z1 : sizeN (1 + s0) (2 * a0) = 1 + s0 := by unfold sizeN; rw [if_pos (by rw [Int.tmod_eq_emod_of_nonneg (by omega)]; omega)]
  have z2 : sizeN (1 + s0) (2 * a0 + 1) = 1 + s0 + 1 := by unfold sizeN; rw [if_neg (by rw [Int.tmod_eq_emod_of_nonneg (by omega)]; omega)]
  have K0 := Aside0.mk hk
  have K1 := Aside0.mk hk1
  have K2 := Aside0.mk hk2
  have K3 := Aside0.mk hk3
  have Z1 := Aside0.mk z1
  have Z2 := Aside0.mk z2
  have HP2 := Aside0.mk hp2e
  have hp2lo : -20 ≤ p2 := by omega
  have hp2hi : p2 ≤ 4000 := by omega
  clear hk hk1 hk2 hk3 z1 z2 hp2e
  have l7 : 0 < k → p2 < n1 := l6
  clear l6
  rcases (show 0 < k ∨ k ≤ 0 by omega) with hk0 | hk0
  · have l8 := l7 hk0
    clear l7
    go_enter Try.func14, Try.ntmps14
    go_wp2_with fail
    refine (low n _ _ (by omega) (by omega)).mono ?_
    rintro e w1 ⟨rfl, rfl⟩
    rw [← HN1.out]
    go_wp2_with fail
    refine (low size _ _ (by omega) (by omega)).mono ?_
    rintro e w1 ⟨rfl, rfl⟩
    rw [← HS0.out]
    go_wp2_with fail
    refine (low more _ _ (by omega) (by omega)).mono ?_
    rintro e w1 ⟨rfl, rfl⟩
    rw [← HM1.out]
    go_wp2_with fail
    refine (low attempt _ _ (by omega) (by omega)).mono ?_
    rintro e w1 ⟨rfl, rfl⟩
    rw [← HA0.out]
    go_wp2_with fail
    refine (chunks n1 (1 + s0) _ (by omega)).mono ?_
    rintro e w1 ⟨rfl, rfl⟩
    rw [← K0.out]
    go_wp2_with fail
    refine (chunks n1 (1 + s0 + m1) _ (by omega)).mono ?_
    rintro e w1 ⟨rfl, rfl⟩
    rw [← K1.out]
    go_wp2_with fail
    refine (chunks (n1 + m1) (1 + s0) _ (by omega)).mono ?_
    rintro e w1 ⟨rfl, rfl⟩
    rw [← K2.out]
    go_wp2_with fail
    refine (sizeC (1 + s0) (2 * a0) _ (by omega) (by omega)).mono ?_
    rintro e w1 ⟨rfl, rfl⟩
    rw [Z1.out]
    go_wp2_with fail
    refine (sizeC (1 + s0) (2 * a0 + 1) _ (by omega) (by omega)).mono ?_
    rintro e w1 ⟨rfl, rfl⟩
    rw [Z2.out]
    go_wp2_with fail
    refine (chunks n1 (1 + s0 + 1) _ (by omega)).mono ?_
    rintro e w1 ⟨rfl, rfl⟩
    rw [← K3.out]
    go_wp2_with fail
    refine (chunks n1 (1 + s0) _ (by omega)).mono ?_
    rintro e w1 ⟨rfl, rfl⟩
    rw [← K0.out]
    go_wp2_with fail
    refine (awake10 _).mono ?_
    rintro e w13 ⟨rfl, hb13⟩
    go_wp2_with fail
    go_ret
    exact ⟨rfl, hb13⟩
  · clear l7
    go_enter Try.func14, Try.ntmps14
    go_wp2_with fail
    refine (low n _ _ (by omega) (by omega)).mono ?_
    rintro e w1 ⟨rfl, rfl⟩
    rw [← HN1.out]
    go_wp2_with fail
    refine (low size _ _ (by omega) (by omega)).mono ?_
    rintro e w1 ⟨rfl, rfl⟩
    rw [← HS0.out]
    go_wp2_with fail
    refine (low more _ _ (by omega) (by omega)).mono ?_
    rintro e w1 ⟨rfl, rfl⟩
    rw [← HM1.out]
    go_wp2_with fail
    refine (low attempt _ _ (by omega) (by omega)).mono ?_
    rintro e w1 ⟨rfl, rfl⟩
    rw [← HA0.out]
    go_wp2_with fail
    refine (chunks n1 (1 + s0) _ (by omega)).mono ?_
    rintro e w1 ⟨rfl, rfl⟩
    rw [← K0.out]
    go_wp2_with fail
    refine (chunks n1 (1 + s0 + m1) _ (by omega)).mono ?_
    rintro e w1 ⟨rfl, rfl⟩
    rw [← K1.out]
    go_wp2_with fail
    refine (chunks (n1 + m1) (1 + s0) _ (by omega)).mono ?_
    rintro e w1 ⟨rfl, rfl⟩
    rw [← K2.out]
    go_wp2_with fail
    refine (sizeC (1 + s0) (2 * a0) _ (by omega) (by omega)).mono ?_
    rintro e w1 ⟨rfl, rfl⟩
    rw [Z1.out]
    go_wp2_with fail
    refine (sizeC (1 + s0) (2 * a0 + 1) _ (by omega) (by omega)).mono ?_
    rintro e w1 ⟨rfl, rfl⟩
    rw [Z2.out]
    go_wp2_with fail
    refine (chunks n1 (1 + s0 + 1) _ (by omega)).mono ?_
    rintro e w1 ⟨rfl, rfl⟩
    rw [← K3.out]
    go_wp2_with fail
    refine (chunks n1 (1 + s0) _ (by omega)).mono ?_
    rintro e w1 ⟨rfl, rfl⟩
    rw [← K0.out]
    go_wp2_with fail
    refine (awake10 _).mono ?_
    rintro e w13 ⟨rfl, hb13⟩
    go_wp2_with fail
    go_ret
    exact ⟨rfl, hb13⟩
end Go.Proofs.Ytocooepdibgelaa.K
