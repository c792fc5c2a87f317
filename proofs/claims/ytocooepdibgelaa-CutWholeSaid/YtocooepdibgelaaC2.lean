/- Each chunk; chunks put one behind the other. -/
import Derived.Test.YtocooepdibgelaaC1
import Derived.Test.YtocooepdibgelaaWZeros
set_option linter.unusedVariables false
set_option linter.unusedSimpArgs false
namespace Go.Proofs.Ytocooepdibgelaa.K
open Go.RowKit Go.Proofs.YtocooepdibgelaaW.PrintWords Go.Proofs.YtocooepdibgelaaW.PrintLast Go.Proofs.YtocooepdibgelaaW.PrintMore Go.Proofs.Ytocooepdibgelaa.U Go.Proofs.Ytocooepdibgelaa.T
attribute [local go_sem high] eqA_pair
attribute [local go_sem] max2_int min2_int

set_option maxHeartbeats 800000 in
theorem chunk (A0 : Option Addr) (c0 : Nat) (l0 : List PairD) (size seq : Int) (w : World) (hr0 : Kd.C kPair w A0 l0.length l0) (hc0 : l0.length ≤ c0) (hl : l0.length ≤ 100000000) (hs : size ≤ 9223372036854775807) :
    Calls Try.prog 43 #[.slice A0 l0.length c0, .int .i64 size, .int .i64 seq] w fun e w' => ∃ v X, e = .returned v ∧ Own kPair 37 w' w.heap.size v X ∧ Aside0 (X = chunkL l0 size seq) ∧ Below w.heap.size w w' := by
  have HR0 := Aside0.mk hr0
  clear hr0
  by_cases h1 : seq < 0
  · go_enter Try.func43, Try.ntmps43
    go_wp2_with fail
    go_ret
    exact ⟨_, [], rfl, Own.nil _ _ _ _, ⟨by rw [chunkL, if_pos (.inl h1)]⟩, Below.refl _ _⟩
  · obtain ⟨q, hq⟩ : ∃ q, q = chunksN l0.length size := ⟨_, rfl⟩
    by_cases h2 : q ≤ seq
    · have HQ := Aside0.mk hq
      clear hq
      go_enter Try.func43, Try.ntmps43
      go_wp2_with fail
      refine (chunks _ size w (by omega)).mono ?_
      rintro e w1 ⟨rfl, rfl⟩
      rw [← HQ.out]
      go_wp2_with fail
      go_ret
      exact ⟨_, [], rfl, Own.nil _ _ _ _, ⟨by rw [chunkL, if_pos (.inr (by rw [← HQ.out]; exact h2))]⟩, Below.refl _ _⟩
    · obtain ⟨hs1, hm0, hm1⟩ := chunkL_at l0.length size seq (by omega) (by omega)
      have hX : chunkL l0 size seq = (l0.drop (seq * size).toNat).take size.toNat := by rw [chunkL, if_neg (by omega)]
      obtain ⟨m, hm⟩ := Int.eq_ofNat_of_zero_le hm0
      rw [hm, Int.toNat_natCast] at hX
      obtain ⟨z, rfl⟩ := Int.eq_ofNat_of_zero_le (show 0 ≤ size by omega)
      rw [Int.toNat_natCast] at hX
      obtain ⟨k, hk⟩ : ∃ k : Nat, k = min z (l0.length - m) := ⟨_, rfl⟩
      have hk1 : m + k ≤ l0.length := by omega
      have hmlt : m < l0.length := by omega
      have hcut := Kd.C_mid (lo := m) (hi := m + k) HR0.out (by omega) hk1 hc0
      have e1 : (l0.take (m + k)).drop m = (l0.drop m).take k := by rw [List.drop_take, Nat.add_sub_cancel_left]
      have e2 : (l0.drop m).take k = (l0.drop m).take z := by
        rw [hk, ← List.take_take, List.take_of_length_le (l := l0.drop m) (i := l0.length - m) (by rw [List.length_drop]; omega)]
      rw [e1, e2, ← hX, if_neg (by omega : ¬ c0 = m)] at hcut
      have hlen : (chunkL l0 z seq).length = k := by rw [hX, List.length_take, List.length_drop, hk]
      have HCUT := Aside0.mk hcut
      have HLEN := Aside0.mk hlen
      have HQ := Aside0.mk hq
      have hkz : (k : Int) = min (z : Int) ((l0.length : Int) - m) := by omega
      have HKZ := Aside0.mk hkz
      clear hq hX hcut e1 e2 hlen hm0 hkz
      obtain ⟨ad, rfl, _⟩ := HR0.out.2.2 (by omega)
      rcases Nat.lt_or_ge (l0.length - m) z with hz | hz
      · have hke : l0.length - m = k := by omega
        clear hk
        subst hke
        go_enter Try.func43, Try.ntmps43
        go_wp2_with fail
        refine (chunks _ z w (by omega)).mono ?_
        rintro e w1 ⟨rfl, rfl⟩
        rw [← HQ.out]
        go_wp2_with fail
        have hcall := clone (some (ad.add (m * 2))) (c0 - m) (chunkL l0 z seq) w1 HCUT.out (by rw [HLEN.out]; omega)
        rw [HLEN.out] at hcall
        refine hcall.mono ?_
        clear hcall
        rintro e w2 ⟨v2, rfl, hv2, hb2⟩
        have HV2 := Aside0.mk hv2
        have HB2 := Aside0.mk hb2
        clear hv2 hb2
        go_wp2_with fail
        go_ret
        exact ⟨_, _, rfl, HV2.out, ⟨rfl⟩, HB2.out⟩
      · have hke : z = k := by omega
        clear hk
        subst hke
        go_enter Try.func43, Try.ntmps43
        go_wp2_with fail
        refine (chunks _ z w (by omega)).mono ?_
        rintro e w1 ⟨rfl, rfl⟩
        rw [← HQ.out]
        go_wp2_with fail
        have hcall := clone (some (ad.add (m * 2))) (c0 - m) (chunkL l0 z seq) w1 HCUT.out (by rw [HLEN.out]; omega)
        rw [HLEN.out] at hcall
        refine hcall.mono ?_
        clear hcall
        rintro e w2 ⟨v2, rfl, hv2, hb2⟩
        have HV2 := Aside0.mk hv2
        have HB2 := Aside0.mk hb2
        clear hv2 hb2
        go_wp2_with fail
        go_ret
        exact ⟨_, _, rfl, HV2.out, ⟨rfl⟩, HB2.out⟩

set_option maxHeartbeats 1600000 in
theorem refChunk (A0 : Option Addr) (c0 : Nat) (l0 : List PairD) (size seq : Int) (w : World) (hr0 : Kd.C kPair w A0 l0.length l0) (hc0 : l0.length ≤ c0) (hl : l0.length ≤ 100000000) (hs : size ≤ 9223372036854775807) :
    Calls Try.prog 44 #[.slice A0 l0.length c0, .int .i64 size, .int .i64 seq] w fun e w' => ∃ v X, e = .returned v ∧ Own kPair 37 w' w.heap.size v X ∧ Aside0 (X = chunkL l0 size seq) ∧ Below w.heap.size w w' := by
  have HR0 := Aside0.mk hr0
  clear hr0
  have hup := Try.underlying37
  by_cases h1 : seq < 0
  · go_enter Try.func44, Try.ntmps44
    go_wp2_with fail
    go_ret
    exact ⟨_, [], rfl, Own.nil _ _ _ _, ⟨by rw [chunkL, if_pos (.inl h1)]⟩, Below.refl _ _⟩
  · obtain ⟨q, hq⟩ : ∃ q, q = chunksN l0.length size := ⟨_, rfl⟩
    by_cases h2 : q ≤ seq
    · have HQ := Aside0.mk hq
      clear hq
      go_enter Try.func44, Try.ntmps44
      go_wp2_with fail
      refine (refChunks _ size w (by omega)).mono ?_
      rintro e w1 ⟨rfl, rfl⟩
      rw [← HQ.out]
      go_wp2_with fail
      go_ret
      exact ⟨_, [], rfl, Own.nil _ _ _ _, ⟨by rw [chunkL, if_pos (.inr (by rw [← HQ.out]; exact h2))]⟩, Below.refl _ _⟩
    · obtain ⟨hs1, hm0, hm1⟩ := chunkL_at l0.length size seq (by omega) (by omega)
      have hX : chunkL l0 size seq = (l0.drop (seq * size).toNat).take size.toNat := by rw [chunkL, if_neg (by omega)]
      obtain ⟨m, hm⟩ := Int.eq_ofNat_of_zero_le hm0
      rw [hm, Int.toNat_natCast] at hX
      obtain ⟨z, rfl⟩ := Int.eq_ofNat_of_zero_le (show 0 ≤ size by omega)
      rw [Int.toNat_natCast] at hX
      have hmlt : m < l0.length := by omega
      have HX := Aside0.mk hX
      have HQ := Aside0.mk hq
      clear hq hX hm0
      go_enter Try.func44, Try.ntmps44
      go_wp2_with fail
      refine (refChunks _ z w (by omega)).mono ?_
      rintro e w1 ⟨rfl, rfl⟩
      rw [← HQ.out]
      go_wp2_with fail
      go_loopg [7, 8] (l0.length - m) (fun kq v7 v8 w' => ∃ (k : Nat) (X : List PairD), m + k + kq = l0.length ∧ k ≤ z ∧ v8 = .int .i64 ((m : Int) + (k : Int)) ∧ Aside0 (X = (l0.drop m).take k) ∧ Aside0 (Own kPair 37 w' w1.heap.size v7 X) ∧ Aside0 (Below w1.heap.size w1 w'))
      case atStart => exact ⟨0, [], by omega, by omega, by go_num, ⟨by simp⟩, ⟨Own.nil _ _ _ _⟩, ⟨Below.refl _ _⟩⟩
      case round =>
        obtain ⟨k, X, hk, hkz, rfl, HXk, HV, HB⟩ := hrel
        obtain ⟨Ax, cx, rfl, hcx, hrx⟩ := HV.out.reads
        clear hrx
        have hxl : X.length = k := by rw [HXk.out, List.length_take, List.length_drop]; omega
        rw [hxl]
        have HV' : Aside0 (Own kPair 37 wr w1.heap.size (.slice Ax k cx) X) := ⟨by rw [← hxl]; exact HV.out⟩
        have HXL := Aside0.mk hxl
        clear HV
        have HV := HV'
        clear HV'
        clear hxl hcx
        by_cases hlt : m + k < l0.length
        · by_cases hz : k < z
          · obtain ⟨ad, rfl, hx0, hx1⟩ := at_pair2 (Kd.C_below HR0.out HB.out) (m + k) hlt
            obtain ⟨s, hs⟩ : ∃ s, s = l0[m + k] := ⟨_, rfl⟩
            rw [← hs] at hx0 hx1
            have HS := Aside0.mk hs
            clear hs
            have hbase := HB.out.size
            obtain ⟨j, hj⟩ : ∃ j : Nat, j = m + k := ⟨_, rfl⟩
            rw [← hj] at hx0 hx1
            have hji : (m : Int) + (k : Int) = (j : Int) := by omega
            rw [hji]
            have hjl : j < l0.length := by omega
            have HJ := Aside0.mk hj
            clear hj hji
            go_wp2_with (at_builtin; refine wpList_append_runs rfl _ _ _ _ rfl _ _ rfl rfl (append_one_runs Try.prog flat_pair 22 _ _ 32 Try.underlying22 info_pair rfl (by decide) (x := s) (cs := [.string s.key, .string s.val]) HV.out (kPair_mk _ _) hbase (by rw [HXL.out]; omega) (by rw [HXL.out]; omega) 37 _ rfl _ rfl) ?_; rintro v4 w4 ⟨hv4, hg4⟩; have HV4 := Aside0.mk hv4; have HG4 := Aside0.mk hg4; clear hv4 hg4)
            have hba4 := HB.out.alloc hbase (.cells #[.string s.key, .string s.val] 37)
            have HB4 := Aside0.mk (hba4.grown HG4.out hba4.size (fun k hk => HV.out.base_ k hk))
            clear hba4
            go_roundg (l0.length - m - (k + 1))
            case measure => omega
            case rel => exact ⟨k + 1, X ++ [s], by omega, by omega, by rw [show (m : Int) + ((k + 1 : Nat) : Int) = (j : Int) + 1 from by have := HJ.out; omega], ⟨by rw [take_one_more _ _ _ hlt, HXk.out, HS.out]⟩, HV4, HB4⟩
          · go_wp2_with fail
            go_ret
            have hke : k = z := by omega
            subst hke
            exact ⟨_, X, rfl, HV.out, ⟨by rw [HX.out, HXk.out]⟩, HB.out⟩
        · go_wp2_with fail
          go_ret
          have hfin : X = chunkL l0 z seq := by rw [HX.out, HXk.out, List.take_of_length_le (by rw [List.length_drop]; omega), List.take_of_length_le (by rw [List.length_drop]; omega)]
          exact ⟨_, rfl, X, HV.out, ⟨hfin⟩, HB.out⟩
end Go.Proofs.Ytocooepdibgelaa.K
