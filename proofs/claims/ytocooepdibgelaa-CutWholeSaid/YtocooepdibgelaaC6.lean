/- The statements of chapter 10. -/
import Derived.Test.YtocooepdibgelaaC4
set_option linter.unusedVariables false
set_option linter.unusedSimpArgs false
namespace Go.Proofs.Ytocooepdibgelaa.K
open Go.RowKit Go.Proofs.YtocooepdibgelaaW.PrintWords Go.Proofs.YtocooepdibgelaaW.PrintLast Go.Proofs.YtocooepdibgelaaW.PrintMore Go.Proofs.Ytocooepdibgelaa.U Go.Proofs.Ytocooepdibgelaa.T
attribute [local go_sem high] eqA_pair
attribute [local go_sem] max2_int min2_int

theorem wf_64 {n : Int} (h : (Lit.int .i64 n).wf = true) : -9223372036854775808 ≤ n ∧ n ≤ 9223372036854775807 := by
  simpa [Lit.wf, IntKind.min, IntKind.max, IntKind.signed, IntKind.bits] using h
theorem chunkL_length (l : List PairD) (size seq : Int) : (chunkL l size seq).length ≤ l.length := by
  unfold chunkL
  split
  · simp
  · rw [List.length_take, List.length_drop]; omega

set_option maxHeartbeats 1600000 in
theorem cutTells_walk (W : World) (A0 : Option Addr) (c0 : Nat) (l0 : List PairD) (hr0 : Kd.C kPair W A0 l0.length l0) (hc0 : l0.length ≤ c0) (hg0 : ∀ x ∈ l0, GPair x) (size : Int) (wsize : (Lit.int .i64 size).wf = true) (seq : Int) (wseq : (Lit.int .i64 seq).wf = true) (chunk_ : Int) (wchunk : (Lit.int .i64 chunk_).wf = true) (attempt : Int) (wattempt : (Lit.int .i64 attempt).wf = true) (n : Int) (wn : (Lit.int .i64 n).wf = true) :
    Calls Try.prog 11 #[.slice A0 l0.length c0, .int .i64 size, .int .i64 seq, .int .i64 chunk_, .int .i64 attempt, .int .i64 n] W fun e w' => e = .returned (.bool true) ∧ Below W.heap.size W w' := by
  have hm0 := Kd.C_max hr0
  have HR0 := Aside0.mk hr0
  have HG0 := Aside0.mk hg0
  have hs := (wf_64 wsize).2
  have hn := (wf_64 wn).2
  clear hr0 hg0 wsize wseq wchunk wattempt wn
  go_enter Try.func11, Try.ntmps11
  go_wp2_with fail
  refine (greatPairs A0 c0 l0 80 W HR0.out HG0.out).mono ?_
  rintro e w1 ⟨⟨r, rfl, hr⟩, hb1⟩
  cases r with
  | true =>
    go_wp2_with fail
    refine (awake10 _).mono ?_
    rintro e w6 ⟨rfl, hb6⟩
    have HB6 := Aside0.mk (two_andc _ _ _ hb1 hb6)
    clear hb1 hb6
    go_wp2_with fail
    go_ret
    exact ⟨rfl, HB6.out⟩
  | false =>
    have hl80 := (hr rfl).1
    have HB1 := Aside0.mk hb1
    clear hr hb1
    go_wp2_with fail
    obtain ⟨q, hq⟩ : ∃ q, q = lowN chunk_ 1000 := ⟨_, rfl⟩
    have rq : 0 ≤ q ∧ q < 1000 := by rw [hq]; exact lowN_range _ _ (by omega)
    have HQ := Aside0.mk hq
    obtain ⟨rq0, rq1⟩ := rq
    clear hq
    refine (low chunk_ _ _ (by omega) (by omega)).mono ?_
    rintro e w1' ⟨rfl, rfl⟩
    rw [← HQ.out]
    go_wp2_with fail
    refine (lendPairs A0 c0 l0 w1' (Kd.C_below HR0.out HB1.out) (by omega)).mono ?_
    rintro e w2 ⟨g, rfl, hL2, hb2⟩
    have HL2 := Aside0.mk hL2
    have HB2 := Aside0.mk (two_andc _ _ _ HB1.out hb2)
    have G1 := Aside0.mk hL2.lt
    clear hL2 hb2
    go_wp2_with fail
    refine (chunk _ _ l0 size seq w2 (HL2.out.reads (by omega)) (by omega) (by omega) hs).mono ?_
    rintro e w3 ⟨va, X, rfl, ha3, HX, hb3⟩
    obtain ⟨Aa, ca, rfl, _, _⟩ := ha3.reads
    have HA3 := Aside0.mk ha3
    have HL3 := Aside0.mk (HL2.out.below hb3)
    have HB3 := Aside0.mk (two_andc _ _ _ HB2.out hb3)
    clear ha3 hb3 HL2
    go_wp2_with fail
    refine (refChunk A0 c0 l0 size seq w3 (Kd.C_below HR0.out HB3.out) hc0 (by omega) hs).mono ?_
    rintro e w8 ⟨vr, Y, rfl, hr8, HY, hb8⟩
    obtain ⟨Ar, cr, rfl, _, hrr8⟩ := hr8.reads
    have HRR := Aside0.mk hrr8
    have HA8 := Aside0.mk (HA3.out.below hb8)
    have HL8 := Aside0.mk (HL3.out.below hb8)
    have HB8 := Aside0.mk (two_andc _ _ _ HB3.out hb8)
    clear hr8 hrr8 hb8 HA3 HL3 HB3
    go_wp2_with fail
    refine (samePairs _ _ X _ _ Y w8 HA8.out.is.2.2 HRR.out true (by rw [HX.out, HY.out]; simp)).mono ?_
    rintro e w9 ⟨rfl, hb9⟩
    have HA9 := Aside0.mk (HA8.out.below hb9)
    have HL9 := Aside0.mk (HL8.out.below hb9)
    have HB9 := Aside0.mk (two_andc _ _ _ HB8.out hb9)
    clear hb9 HA8 HL8 HB8 HRR
    go_wp2_with fail
    refine (sizeC q attempt w9 rq0 (by omega)).mono ?_
    rintro e w9' ⟨rfl, rfl⟩
    go_wp2_with fail
    refine (refSize q attempt _ rq0 (by omega)).mono ?_
    rintro e w9'' ⟨rfl, rfl⟩
    go_wp2_with fail
    refine (chunks n size _ hn).mono ?_
    rintro e w9x ⟨rfl, rfl⟩
    go_wp2_with fail
    refine (refChunks n size _ hn).mono ?_
    rintro e w9y ⟨rfl, rfl⟩
    go_wp2_with fail
    refine (keptPairs g A0 c0 l0 l0 _ _ HL9.out (Kd.C_below HR0.out HB9.out) (by omega) true (by simp)).mono ?_
    rintro e w10 ⟨rfl, hb10⟩
    have HA10 := Aside0.mk (HA9.out.below hb10)
    have HL10 := Aside0.mk (HL9.out.below hb10)
    have HB10 := Aside0.mk (two_andc _ _ _ HB9.out hb10)
    clear hb10 HA9 HL9 HB9
    go_wp2_with fail
    have hxl : X.length ≤ 100000000 := by have := chunkL_length l0 size seq; rw [HX.out]; omega
    refine (overPairs _ X W.heap.size w10 (HA10.out.lower HB2.out.size) HB10.out.size hxl).mono ?_
    rintro e w11 ⟨rfl, hg11⟩
    have HL11 := Aside0.mk (HL10.out.other hg11 (fun k hk => by have h1 := HA10.out.base_ k hk; have h2 := G1.out; omega))
    have HB11 := Aside0.mk (HB10.out.grown hg11 HB10.out.size (fun k hk => Nat.le_trans HB2.out.size (HA10.out.base_ k hk)))
    clear hg11 HA10 HL10 HB10 hxl
    go_wp2_with fail
    refine (keptPairs g A0 c0 l0 l0 w11 _ HL11.out (Kd.C_below HR0.out HB11.out) (by omega) true (by simp)).mono ?_
    rintro e w12 ⟨rfl, hb12⟩
    have HB12 := Aside0.mk (two_andc _ _ _ HB11.out hb12)
    clear hb12 HB11 HL11
    go_wp2_with fail
    refine (awake10 _).mono ?_
    rintro e w13 ⟨rfl, hb13⟩
    have HB13 := Aside0.mk (two_andc _ _ _ HB12.out hb13)
    clear hb13 HB12
    go_wp2_with fail
    go_ret
    exact ⟨rfl, HB13.out⟩
end Go.Proofs.Ytocooepdibgelaa.K
