/- The statements of chapter 8. -/
import Derived.Test.YtocooepdibgelaaP2
set_option linter.unusedVariables false
set_option linter.unusedSimpArgs false
namespace Go.Proofs.Ytocooepdibgelaa.K
open Go.RowKit Go.Proofs.YtocooepdibgelaaW.PrintWords Go.Proofs.YtocooepdibgelaaW.PrintLast Go.Proofs.YtocooepdibgelaaW.PrintMore Go.Proofs.Ytocooepdibgelaa.U Go.Proofs.Ytocooepdibgelaa.T
attribute [local go_sem high] eqA_pair

theorem lit_pairs (w : World) (xs : List PairD) (e : Nat) (arr : Array Value) (h : arr = (cellsP xs).toArray) (hl : xs.length ≤ 9223372036854775807) : Kd.C kPair (w.alloc (.cells arr e)) (some ⟨w.heap.size, 0, none⟩) xs.length xs := by
  subst h
  exact blk_pairs (rest := []) (by rw [List.append_nil]; exact alloc_at w _) hl

set_option maxHeartbeats 800000 in
theorem awake8 (w : World) : Calls Try.prog 16 #[] w fun e w' => e = .returned (.bool true) ∧ Below w.heap.size w w' := by
  have n0 : numK ⟨#[]⟩ = 7 := rfl
  have n1 : numK ⟨#[97]⟩ = 314 := by decide
  have p4 : partN ⟨#[97]⟩ 4 = 2 := by decide
  have p0 : partN ⟨#[97]⟩ 0 = -1 := by decide
  have o1 : (onlyL [⟨⟨#[97]⟩, ⟨#[]⟩⟩] 4 2).length = 1 := by
    unfold onlyL
    rw [List.filter_cons, if_pos (by rw [p4]; decide), List.filter_nil]
    rfl
  have hu := Try.underlying37
  go_enter Try.func16, Try.ntmps16
  go_wp2_with fail
  refine (number ⟨#[]⟩ w (by decide)).mono ?_
  rintro e w1 ⟨rfl, hb1⟩
  rw [n0]
  go_wp2_with fail
  refine (number ⟨#[97]⟩ w1 (by decide)).mono ?_
  rintro e w2 ⟨rfl, hb2⟩
  rw [n1]
  have HB2 := Aside0.mk (two_and' _ _ _ hb1 hb2)
  clear hb1 hb2
  go_wp2_with fail
  refine (of_ ⟨#[97]⟩ 4 w2 (by decide) (by decide)).mono ?_
  rintro e w3 ⟨rfl, hb3⟩
  rw [p4]
  have HB3 := Aside0.mk (two_and' _ _ _ HB2.out hb3)
  clear hb3
  go_wp2_with fail
  refine (of_ ⟨#[97]⟩ 0 w3 (by decide) (by decide)).mono ?_
  rintro e w4 ⟨rfl, hb4⟩
  rw [p0]
  have HB4 := Aside0.mk (two_and' _ _ _ HB3.out hb4)
  clear hb4
  go_wp2_with fail
  refine (only (some ⟨w4.heap.size, 0, none⟩) 1 [⟨⟨#[97]⟩, ⟨#[]⟩⟩] 4 2 _ (lit_pairs w4 _ _ _ rfl (by decide)) (fun x hx => by rw [List.mem_singleton.1 hx]; exact ⟨by decide, by decide⟩) (by decide) (by decide)).mono ?_
  rintro e w5 ⟨v5, X5, rfl, hv5, HX5, hb5⟩
  obtain ⟨A, c, rfl, _, _⟩ := hv5.reads
  rw [HX5.out, o1]
  have HB5 := Aside0.mk (two_and' _ _ _ (HB4.out.alloc HB4.out.size _) hb5)
  clear hb5
  go_wp2_with fail
  go_ret
  exact ⟨rfl, HB5.out⟩

set_option maxHeartbeats 1600000 in
theorem partTells_walk (W : World) (key : ByteArray) (hkey : key.size ≤ 140737488351232) (parts : Int) (wparts : (Lit.int .i64 parts).wf = true) (p : Int) (wp_ : (Lit.int .i64 p).wf = true) (A0 : Option Addr) (c0 : Nat) (l0 : List PairD) (hr0 : Kd.C kPair W A0 l0.length l0) (hc0 : l0.length ≤ c0) (hg0 : ∀ x ∈ l0, GPair x) :
    Calls Try.prog 3 #[.string key, .int .i64 parts, .int .i64 p, .slice A0 l0.length c0] W fun e w' => e = .returned (.bool true) ∧ Below W.heap.size W w' := by
  have hm0 := Kd.C_max hr0
  have HR0 := Aside0.mk hr0
  have HG0 := Aside0.mk hg0
  have hpm : parts ≤ 9223372036854775807 := (show -9223372036854775808 ≤ parts ∧ parts ≤ 9223372036854775807 by simpa [Lit.wf, IntKind.min, IntKind.max, IntKind.signed, IntKind.bits] using wparts).2
  clear hr0 hg0 wparts wp_
  rcases Nat.lt_or_ge 100 key.size with h1 | h1
  · go_enter Try.func3, Try.ntmps3
    go_wp2_with fail
    refine (awake8 _).mono ?_
    rintro e w6 ⟨rfl, hb6⟩
    go_wp2_with fail
    go_ret
    exact ⟨rfl, hb6⟩
  · go_enter Try.func3, Try.ntmps3
    go_wp2_with fail
    refine (greatPairs A0 c0 l0 80 W HR0.out HG0.out).mono ?_
    rintro e w1 ⟨⟨r, rfl, hr⟩, hb1⟩
    cases r with
    | true =>
      go_wp2_with fail
      refine (awake8 _).mono ?_
      rintro e w6 ⟨rfl, hb6⟩
      have HB6 := Aside0.mk (two_and' _ _ _ hb1 hb6)
      clear hb1 hb6
      go_wp2_with fail
      go_ret
      exact ⟨rfl, HB6.out⟩
    | false =>
      have hl80 := (hr rfl).1
      have HB1 := Aside0.mk hb1
      clear hr hb1
      go_wp2_with fail
      refine (lendPairs A0 c0 l0 w1 (Kd.C_below HR0.out HB1.out) (by omega)).mono ?_
      rintro e w2 ⟨g, rfl, hL2, hb2⟩
      have HL2 := Aside0.mk hL2
      have HB2 := Aside0.mk (two_and' _ _ _ HB1.out hb2)
      have S1 := Aside0.mk HB1.out.size
      have G1 := Aside0.mk hL2.lt
      clear hL2 hb2
      go_wp2_with fail
      refine (only _ _ l0 parts p w2 (HL2.out.reads (by omega)) HG0.out (by omega) hpm).mono ?_
      rintro e w3 ⟨va, X, rfl, ha3, HX, hb3⟩
      obtain ⟨Aa, ca, rfl, _, _⟩ := ha3.reads
      have HA3 := Aside0.mk ha3
      have HL3 := Aside0.mk (HL2.out.below hb3)
      have HB3 := Aside0.mk (two_and' _ _ _ HB2.out hb3)
      clear ha3 hb3 HL2
      go_wp2_with fail
      refine (number key w3 (by omega)).mono ?_
      rintro e w4 ⟨rfl, hb4⟩
      have HA4 := Aside0.mk (HA3.out.below hb4)
      have HL4 := Aside0.mk (HL3.out.below hb4)
      have HB4 := Aside0.mk (two_and' _ _ _ HB3.out hb4)
      clear hb4 HA3 HL3 HB3
      go_wp2_with fail
      refine (refNumber key w4 (by omega)).mono ?_
      rintro e w5 ⟨rfl, hb5⟩
      have HA5 := Aside0.mk (HA4.out.below hb5)
      have HL5 := Aside0.mk (HL4.out.below hb5)
      have HB5 := Aside0.mk (two_and' _ _ _ HB4.out hb5)
      clear hb5 HA4 HL4 HB4
      go_wp2_with fail
      refine (of_ key parts w5 (by omega) hpm).mono ?_
      rintro e w6 ⟨rfl, hb6⟩
      have HA6 := Aside0.mk (HA5.out.below hb6)
      have HL6 := Aside0.mk (HL5.out.below hb6)
      have HB6 := Aside0.mk (two_and' _ _ _ HB5.out hb6)
      clear hb6 HA5 HL5 HB5
      go_wp2_with fail
      refine (refOf key parts w6 (by omega) hpm).mono ?_
      rintro e w7 ⟨rfl, hb7⟩
      have HA7 := Aside0.mk (HA6.out.below hb7)
      have HL7 := Aside0.mk (HL6.out.below hb7)
      have HB7 := Aside0.mk (two_and' _ _ _ HB6.out hb7)
      clear hb7 HA6 HL6 HB6
      go_wp2_with fail
      refine (refOnly A0 c0 l0 parts p w7 (Kd.C_below HR0.out HB7.out) HG0.out (by omega) hpm).mono ?_
      rintro e w8 ⟨vr, Y, rfl, hr8, HY, hb8⟩
      obtain ⟨Ar, cr, rfl, _, hrr8⟩ := hr8.reads
      have HRR := Aside0.mk hrr8
      have HA8 := Aside0.mk (HA7.out.below hb8)
      have HL8 := Aside0.mk (HL7.out.below hb8)
      have HB8 := Aside0.mk (two_and' _ _ _ HB7.out hb8)
      clear hr8 hrr8 hb8 HA7 HL7 HB7
      go_wp2_with fail
      refine (samePairs _ _ X _ _ Y w8 HA8.out.is.2.2 HRR.out true (by rw [HX.out, HY.out]; simp)).mono ?_
      rintro e w9 ⟨rfl, hb9⟩
      have HA9 := Aside0.mk (HA8.out.below hb9)
      have HL9 := Aside0.mk (HL8.out.below hb9)
      have HB9 := Aside0.mk (two_and' _ _ _ HB8.out hb9)
      clear hb9 HA8 HL8 HB8 HRR
      go_wp2_with fail
      refine (keptPairs g A0 c0 l0 l0 w9 _ HL9.out (Kd.C_below HR0.out HB9.out) (by omega) true (by simp)).mono ?_
      rintro e w10 ⟨rfl, hb10⟩
      have HA10 := Aside0.mk (HA9.out.below hb10)
      have HL10 := Aside0.mk (HL9.out.below hb10)
      have HB10 := Aside0.mk (two_and' _ _ _ HB9.out hb10)
      clear hb10 HA9 HL9 HB9
      go_wp2_with fail
      have hxl : X.length ≤ 100000000 := by have := onlyL_length l0 parts p; rw [HX.out]; omega
      refine (overPairs _ X W.heap.size w10 (HA10.out.lower HB2.out.size) HB10.out.size hxl).mono ?_
      rintro e w11 ⟨rfl, hg11⟩
      have HL11 := Aside0.mk (HL10.out.other hg11 (fun k hk => by have h1 := HA10.out.base_ k hk; have h2 := G1.out; omega))
      have HB11 := Aside0.mk (HB10.out.grown hg11 HB10.out.size (fun k hk => Nat.le_trans HB2.out.size (HA10.out.base_ k hk)))
      clear hg11 HA10 HL10 HB10 hxl
      go_wp2_with fail
      refine (keptPairs g A0 c0 l0 l0 w11 _ HL11.out (Kd.C_below HR0.out HB11.out) (by omega) true (by simp)).mono ?_
      rintro e w12 ⟨rfl, hb12⟩
      have HB12 := Aside0.mk (two_and' _ _ _ HB11.out hb12)
      clear hb12 HB11 HL11
      go_wp2_with fail
      refine (awake8 _).mono ?_
      rintro e w13 ⟨rfl, hb13⟩
      have HB13 := Aside0.mk (two_and' _ _ _ HB12.out hb13)
      clear hb13 HB12
      go_wp2_with fail
      go_ret
      exact ⟨rfl, HB13.out⟩

theorem numK_snoc (key : ByteArray) (b : Int) : numL (bytesOf key ++ [b]) = stepK (numK key) b := by
  rw [numK, numL, List.foldl_append]
  rfl

set_option maxHeartbeats 1600000 in
theorem partGoes_walk (W : World) (key : ByteArray) (hkey : key.size ≤ 140737488351232) (b : Int) (wb : (Lit.int .u8 b).wf = true) :
    Calls Try.prog 5 #[.string key, .int .u8 b] W fun e w' => e = .returned (.bool true) ∧ Below W.heap.size W w' := by
  have hb : 0 ≤ b ∧ b ≤ 255 := by simpa [Lit.wf, IntKind.min, IntKind.max, IntKind.signed, IntKind.bits] using wb
  obtain ⟨hb0, hb1⟩ := hb
  clear wb
  rcases Nat.lt_or_ge 100 key.size with h1 | h1
  · go_enter Try.func5, Try.ntmps5
    go_wp2_with fail
    refine (awake8 _).mono ?_
    rintro e w6 ⟨rfl, hb6⟩
    go_wp2_with fail
    go_ret
    exact ⟨rfl, hb6⟩
  · obtain ⟨n, hn⟩ : ∃ n, n = numK key := ⟨_, rfl⟩
    have hr : 0 ≤ n ∧ n < 4294967296 := by rw [hn]; exact numL_range _
    obtain ⟨hr0, hr1⟩ := hr
    obtain ⟨s2, hs2⟩ : ∃ s2, s2 = key ++ strOfNums [b] := ⟨_, rfl⟩
    have hsz2 : s2.size ≤ 9223372036854775807 := by
      rw [hs2, ByteArray.size_append]
      have : (strOfNums [b]).size = 1 := rfl
      omega
    have hn2 : numK s2 = (31 * n + b) % 4294967296 := by
      have e : bytesOf s2 = bytesOf key ++ [b] := by
        rw [hs2]
        have e1 : bytesOf (strOfNums [b]) = [b] := by
          show [((UInt8.ofNat b.toNat).toNat : Int)] = [b]
          rw [UInt8.toNat_ofNat_of_lt' (by show b.toNat < 256; omega), Int.toNat_of_nonneg hb0]
        have e2 : bytesOf (key ++ strOfNums [b]) = bytesOf key ++ bytesOf (strOfNums [b]) := by simp [bytesOf, ByteArray.data_append]
        rw [e2, e1]
      show numL (bytesOf s2) = _
      rw [e, numK_snoc, ← hn]
      rfl
    have hp1 : partN key 1 = 0 := by rw [partN, if_neg (by omega)]; omega
    have hp7 : partN key 7 = n % 7 := by rw [partN, if_neg (by omega), hn]
    obtain ⟨t, ht⟩ : ∃ t, t = strOfNums [b] := ⟨_, rfl⟩
    have ht1 : t.size = 1 := by rw [ht]; rfl
    rw [← ht] at hs2
    have HTT := Aside0.mk ht
    clear ht
    have HN := Aside0.mk hn
    have HN2 := Aside0.mk hn2
    have HP1 := Aside0.mk hp1
    have HP7 := Aside0.mk hp7
    have HS2 := Aside0.mk hs2
    clear hn hn2 hp1 hp7 hs2
    go_enter Try.func5, Try.ntmps5
    go_wp2_with fail
    refine (number key W (by omega)).mono ?_
    rintro e w1 ⟨rfl, hb1⟩
    have HB1 := Aside0.mk hb1
    clear hb1
    rw [← HN.out]
    go_wp2_with fail
    refine upon_runs (string_runs Try.prog 38 5 9 Try.underlying38 Try.underlying5 Try.underlying9 (xs := [b]) (n := 1) (lit_nums w1 .u8 [b] _ _ rfl (by simp)) rfl) ?_
    rintro _ w2 ⟨rfl, rfl⟩
    rw [← HTT.out]
    have HB2 := Aside0.mk (HB1.out.alloc HB1.out.size (.cells #[.int .u8 b] 5))
    go_wp2_with fail
    rw [← HS2.out]
    refine (number s2 _ hsz2).mono ?_
    rintro e w3 ⟨rfl, hb3⟩
    have HB3 := Aside0.mk (two_and' _ _ _ HB2.out hb3)
    clear hb3
    rw [HN2.out]
    have hq : ((31 * n + b) % 4294967296 == (31 * n % 4294967296 + b % 4294967296) % 4294967296) = true := beq_iff_eq.2 (by omega)
    go_wp2_with fail
    refine (of_ key 1 w3 (by omega) (by decide)).mono ?_
    rintro e w4 ⟨rfl, hb4⟩
    have HB4 := Aside0.mk (two_and' _ _ _ HB3.out hb4)
    clear hb4
    rw [HP1.out]
    go_wp2_with fail
    refine (of_ key 7 w4 (by omega) (by decide)).mono ?_
    rintro e w5 ⟨rfl, hb5⟩
    have HB5 := Aside0.mk (two_and' _ _ _ HB4.out hb5)
    clear hb5
    rw [HP7.out]
    go_wp2_with fail
    refine (awake8 _).mono ?_
    rintro e w13 ⟨rfl, hb13⟩
    have HB13 := Aside0.mk (two_and' _ _ _ HB5.out hb13)
    clear hb13
    go_wp2_with fail
    go_ret
    exact ⟨rfl, HB13.out⟩
end Go.Proofs.Ytocooepdibgelaa.K
