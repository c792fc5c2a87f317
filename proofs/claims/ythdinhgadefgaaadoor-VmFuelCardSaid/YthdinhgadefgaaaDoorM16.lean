/- The statement VmFuel. -/
import Derived.Test.YthdinhgadefgaaaDoorM15
import Derived.Test.YthdinhgadefgaaaDoorQ3
set_option linter.unusedVariables false
set_option linter.unusedSimpArgs false
set_option maxRecDepth 100000
namespace Go.Proofs.YthdinhgadefgaaaDoor.K
open Go.RowKit Go.Proofs.YthdinhgadefgaaaDoorW.PrintWords Go.Proofs.YthdinhgadefgaaaDoorW.PrintLast Go.Proofs.YthdinhgadefgaaaDoorW.PrintMore Go.Proofs.YthdinhgadefgaaaDoor.U Go.Proofs.YthdinhgadefgaaaDoor.T Go.Proofs.YthdinhgadefgaaaDoor.V

theorem wf64M {n : Int} (h : (Lit.int .i64 n).wf = true) : In64 n := by
  have := bounds_i64 h
  unfold In64
  omega
theorem fin_nat (key : ByteArray) (p : List InsD) (vals : List ByteArray) (k : Nat) (h : k ≤ 2000) : finF key p vals k = playN key p k (runs0 vals) := by
  unfold finF
  rw [show min (k : Int) 2000 = (k : Int) from by omega, Int.toNat_natCast]
theorem of_fin {key : ByteArray} {p : List InsD} {vals : List ByteArray} (hm : CodeMay p) {j k : Nat} (h : finF key p vals j = finF key p vals k) : whyF key p vals j = whyF key p vals k ∧ toldF key p vals j = toldF key p vals k := by
  have hj : CodeMay p ∧ (0 : Int) ≤ (j : Int) := ⟨hm, by omega⟩
  have hk : CodeMay p ∧ (0 : Int) ≤ (k : Int) := ⟨hm, by omega⟩
  unfold whyF toldF
  simp only [if_pos hj, if_pos hk, h]
  exact ⟨trivial, trivial⟩
theorem why_is {key : ByteArray} {p : List InsD} {vals : List ByteArray} (hm : CodeMay p) (k : Nat) (h : k ≤ 2000) : whyF key p vals k = (playN key p k (runs0 vals)).1 := by
  unfold whyF
  rw [if_pos ⟨hm, by omega⟩, fin_nat _ _ _ _ h]
theorem fuel_facts (key : ByteArray) (p : List InsD) (vals : List ByteArray) (hm : CodeMay p) (F : Nat) (hF : F ≤ 2000) : ∃ n : Nat, stepsF key p vals F = n ∧ n ≤ F ∧ (whyF key p vals F = 3 → n = F) ∧
    (∀ L : Nat, L ≤ F → whyF key p vals L ≠ 3 → whyF key p vals L = whyF key p vals F ∧ toldF key p vals L = toldF key p vals F) ∧ (whyF key p vals n = whyF key p vals F ∧ toldF key p vals n = toldF key p vals F) ∧ (0 < n → whyF key p vals F ≠ 3 → whyF key p vals ((n - 1 : Nat) : Int) = 3) := by
  obtain ⟨h1, h2, h3⟩ := playN_steps key p F (runs0 vals)
  have h0 : (runs0 vals).steps = 0 := rfl
  obtain ⟨n, hn⟩ : ∃ n : Nat, (playN key p F (runs0 vals)).2.steps = n := ⟨(playN key p F (runs0 vals)).2.steps.toNat, by omega⟩
  obtain ⟨e1, e2⟩ := playN_enough key p F (runs0 vals) n (by omega)
  have hw := why_is (key := key) (vals := vals) hm F hF
  have hnF : n ≤ F := by omega
  refine ⟨n, ?_, hnF, fun h => ?_, fun L hL h => ?_, ?_, fun hn0 h => ?_⟩
  · unfold stepsF
    rw [if_pos ⟨hm, by omega⟩, fin_nat _ _ _ _ hF]
    exact hn
  · rw [hw] at h
    have := h3 h
    omega
  · rw [why_is hm L (by omega)] at h
    exact of_fin hm (by rw [fin_nat _ _ _ _ (show L ≤ 2000 by omega), fin_nat _ _ _ _ hF]; exact playN_less key p F L _ hL h)
  · exact of_fin hm (by rw [fin_nat _ _ _ _ (show n ≤ 2000 by omega), fin_nat _ _ _ _ hF]; exact e1)
  · rw [why_is hm (n - 1) (by omega)]
    rw [hw] at h
    exact e2 hn0 h
set_option maxHeartbeats 6400000 in
theorem vmFuel_walk (W : World) (hE : Env W) (A0 : Option Addr) (c0 : Nat) (p : List InsD) (hr0 : Kd.C kIns W A0 p.length p) (hc0 : p.length ≤ c0) (hg0 : ∀ x ∈ p, GIns x) (key : ByteArray) (wkey : key.size ≤ 140737488351232)
    (A2 : Option Addr) (c2 : Nat) (vals : List ByteArray) (hr2 : Kd.C Kd.string W A2 vals.length vals) (hc2 : vals.length ≤ c2) (hg2 : ∀ s ∈ vals, s.size ≤ 9223372036854775807) (fuel : Int) (wfu : (Lit.int .i64 fuel).wf = true) (less : Int) (wle : (Lit.int .i64 less).wf = true) :
    Calls Tryd.prog 7 #[.slice A0 p.length c0, .string key, .slice A2 vals.length c2, .int .i64 fuel, .int .i64 less] W fun e w' => e = .returned (.bool true) ∧ Below W.heap.size W w' := by
  have HG := Aside0.mk (great6 A0 c0 p key A2 c2 vals W hr0 hr2 hg2)
  have HPM := Aside0.mk (fun w' (hb : Below W.heap.size W w') => progMay A0 c0 p w' (Kd.C_below hr0 hb) hc0 _ rfl)
  have HRA0 := Aside0.mk (show vals.length ≤ 60 → (∀ s ∈ vals, s.size ≤ 100) → ∀ w' f, Below W.heap.size W w' → In64 f → RunArgs w' A0 c0 p A2 c2 vals f from fun h1 h2 w' f hb hf => ⟨hE.below hb, Kd.C_below hr0 hb, hc0, fun x hx => wf64M (hg0 x hx).2.1, Kd.C_below hr2 hb, hc2, by omega, fun x hx => by have := h2 x hx; omega, hf⟩)
  have HE := Aside0.mk hE
  clear hE hr0 hr2 hc0 hc2 hg0 hg2 wfu wle wkey
  go_enter Tryd.func7, Tryd.ntmps7
  go_wp2_with fail
  refine HG.out.mono ?_
  rintro e w1 ⟨⟨r, rfl, hr⟩, hb1⟩
  have HB1 := Aside0.mk hb1
  have HR := Aside0.mk hr
  clear hb1 hr
  cases r
  · go_wp2_with fail
    refine (HPM.out w1 HB1.out).mono ?_
    rintro e w2 ⟨rfl, hb2⟩
    have HB2 := Aside0.mk (two_belowM HB1.out hb2)
    clear hb2
    by_cases hm : CodeMay p
    · rw [decide_eq_true hm]
      have HRA := Aside0.mk (HRA0.out (HR.out (by trivial)).2.2.1 (HR.out (by trivial)).2.2.2)
      obtain ⟨F, hF, hF2⟩ : ∃ F : Nat, lowN fuel 2001 = F ∧ F ≤ 2000 := ⟨(lowN fuel 2001).toNat, by have := lowN_range fuel 2001 (by omega); omega, by have := lowN_range fuel 2001 (by omega); omega⟩
      obtain ⟨L, hL, hL2⟩ : ∃ L : Nat, lowN less ((F : Int) + 1) = L ∧ L ≤ F := ⟨(lowN less ((F : Int) + 1)).toNat, by have := lowN_range less ((F : Int) + 1) (by omega); omega, by have := lowN_range less ((F : Int) + 1) (by omega); omega⟩
      obtain ⟨n, f1, f2, f3, f4, f5, f6⟩ := fuel_facts key p vals hm F hF2
      have f4' := f4 L hL2
      have HF := Aside0.mk hF
      have HL := Aside0.mk hL
      have HN := Aside0.mk f1
      have HF5 := Aside0.mk f5
      have HF6 := Aside0.mk f6
      have hinF : In64 F := in64_small (by omega) (by omega)
      have hinL : In64 L := in64_small (by omega) (by omega)
      have hinn : In64 n := in64_small (by omega) (by omega)
      have hinn1 : In64 ((n - 1 : Nat) : Int) := in64_small (by omega) (by omega)
      have HIN := Aside0.mk (And.intro hinF (And.intro hinL (And.intro hinn hinn1)))
      obtain ⟨X, hX⟩ : ∃ X, X = toldF key p vals F := ⟨_, rfl⟩
      obtain ⟨x, hx⟩ : ∃ x, x = whyF key p vals F := ⟨_, rfl⟩
      obtain ⟨Y, hY⟩ : ∃ Y, Y = toldF key p vals L := ⟨_, rfl⟩
      obtain ⟨y, hy⟩ : ∃ y, y = whyF key p vals L := ⟨_, rfl⟩
      rw [← hx] at f3 f4' HF6
      rw [← hX] at f4' HF5
      rw [← hY, ← hy] at f4'
      rw [← hx] at HF5
      have HX := Aside0.mk (And.intro hX hx)
      have HY := Aside0.mk (And.intro hY hy)
      have HF4 := Aside0.mk f4'
      have hinn0 : (0 : Int) ≤ n := by omega
      have hnF : (n : Int) ≤ F := by omega
      have hn0b : ¬ (n : Int) < 0 := by omega
      have hx3 : x = 3 ∨ ((x == 3) = false ∧ (x != 3) = true ∧ x ≠ 3) := by
        by_cases h : x = 3
        · exact .inl h
        · exact .inr ⟨by simpa using h, by simpa using h, h⟩
      have hy3 : y = 3 ∨ ((y == 3) = false ∧ (y != 3) = true ∧ y ≠ 3) := by
        by_cases h : y = 3
        · exact .inl h
        · exact .inr ⟨by simpa using h, by simpa using h, h⟩
      have HX3 := Aside0.mk hx3
      have HY3 := Aside0.mk hy3
      have HF3 := Aside0.mk f3
      clear f1 f3 f4 f4' f5 f6 hF hL hX hx hY hy hm hinF hinL hinn hinn1 hx3 hy3
      go_wp2_with fail
      refine (low fuel 2001 w2 (by omega) (by omega)).mono ?_
      rintro e w3 ⟨rfl, rfl⟩
      rw [HF.out]
      go_wp2_with fail
      refine (vmRun A0 c0 p key A2 c2 vals F w3 (HRA.out w3 F HB2.out HIN.out.1)).mono ?_
      rintro e w4 ⟨Aa, ca, rfl, hCa, hb4⟩
      rw [← HX.out.1] at hCa ⊢
      rw [← HX.out.2]
      have HCa := Aside0.mk hCa
      have HB4 := Aside0.mk (two_belowM HB2.out hb4)
      clear hCa hb4
      go_wp2_with fail
      refine (vmSteps A0 c0 p key A2 c2 vals F w4 (HRA.out w4 F HB4.out HIN.out.1)).mono ?_
      rintro e w5 ⟨rfl, hb5⟩
      rw [HN.out]
      have HCa5 := Aside0.mk (Kd.C_below HCa.out hb5)
      have HB5 := Aside0.mk (two_belowM HB4.out hb5)
      clear hb5
      have hm1 : IntKind.i64.wrap ((F : Int) + 1) = (F : Int) + 1 := IntWalk.i64_in _ (by omega)
      -- region 6 is passed: the numbers fit
      have hpass : ∃ q1 q2 : Bool, (x == 3) = q1 ∧ ((n : Int) != F) = q2 ∧ (q1 && q2) = false := by
        rcases HX3.out with h | ⟨h, _, _⟩
        · refine ⟨true, false, by rw [h]; rfl, ?_, rfl⟩
          have := HF3.out h
          rw [this]; simp
        · exact ⟨false, _, h, rfl, rfl⟩
      obtain ⟨q1, q2, hq1, hq2, hq⟩ := hpass
      have hq12 : q1 = false ∨ (q1 = true ∧ q2 = false) := by cases q1 <;> cases q2 <;> simp at hq ⊢
      clear hq
      rcases hq12 with rfl | ⟨rfl, rfl⟩
      all_goals
        go_wp2_with fail
        refine (low less ((F : Int) + 1) w5 (by omega) (by omega)).mono ?_
        rintro e w6 ⟨rfl, rfl⟩
        rw [HL.out]
        go_wp2_with fail
        refine (vmRun A0 c0 p key A2 c2 vals L w6 (HRA.out w6 L HB5.out HIN.out.2.1)).mono ?_
        rintro e w7 ⟨Ab, cb, rfl, hCb, hb7⟩
        rw [← HY.out.1] at hCb ⊢
        rw [← HY.out.2]
        have HCb := Aside0.mk hCb
        have HCa7 := Aside0.mk (Kd.C_below HCa5.out hb7)
        have HB7 := Aside0.mk (two_belowM HB5.out hb7)
        clear hCb hb7
        rcases HY3.out with hy | ⟨h1, h2, h3⟩
        case' inl =>
          have hyb : (y != 3) = false := by rw [hy]; rfl
          go_upto_region 11 with (fail)
          obtain ⟨w8, rfl⟩ : ∃ w, w = w7 := ⟨_, rfl⟩
          have HB8 := HB7
          have HCa8 := HCa7
        case' inr =>
          obtain ⟨e1, e2⟩ := HF4.out h3
          have hyx : (y != x) = false := by rw [e1]; simp
          have HSP := Aside0.mk (samePairs Aa ca X Ab cb Y w7 HCa7.out HCb.out true (by rw [e2]; simp))
          clear e1 e2 h3
          go_wp2_with fail
          refine HSP.out.mono ?_
          rintro e w8 ⟨rfl, hb8⟩
          have HB8 := Aside0.mk (two_belowM HB7.out hb8)
          have HCa8 := Aside0.mk (Kd.C_below HCa7.out hb8)
          clear hb8
          go_upto_region 11 with (fail)
        all_goals
          go_wp2_with fail
          refine (vmRun A0 c0 p key A2 c2 vals n w8 (HRA.out w8 n HB8.out HIN.out.2.2.1)).mono ?_
          rintro e w9 ⟨Ac, cc, rfl, hCc, hb9⟩
          rw [HF5.out.2] at hCc ⊢
          rw [HF5.out.1]
          have HCc := Aside0.mk hCc
          have HCa9 := Aside0.mk (Kd.C_below HCa8.out hb9)
          have HB9 := Aside0.mk (two_belowM HB8.out hb9)
          clear hCc hb9
          have hxx : (x != x) = false := by simp
          have hwn : IntKind.i64.wrap ((n : Int) - 1) = (n : Int) - 1 := IntWalk.i64_in _ (by omega)
          go_wp2_with fail
          refine (samePairs Aa ca X Ac cc X w9 HCa9.out HCc.out true (by simp)).mono ?_
          rintro e w10 ⟨rfl, hb10⟩
          have HB10 := Aside0.mk (two_belowM HB9.out hb10)
          clear hb10
          by_cases hgo : (0 : Int) < n ∧ x ≠ 3
          · obtain ⟨g1, g2⟩ := hgo
            have g3 : (x != 3) = true := by simpa using g2
            have hnm : ((n - 1 : Nat) : Int) = (n : Int) - 1 := by omega
            have HW3 := Aside0.mk (HF6.out (by omega) g2)
            rw [hnm] at HW3
            have hi1 := HIN.out.2.2.2
            rw [hnm] at hi1
            have HI1 := Aside0.mk hi1
            clear hnm g2 hi1
            go_wp2_with fail
            refine (vmRun A0 c0 p key A2 c2 vals ((n : Int) - 1) w10 (HRA.out w10 ((n : Int) - 1) HB10.out HI1.out)).mono ?_
            rintro e w11 ⟨Ad, cd, rfl, _, hb11⟩
            rw [HW3.out]
            have HB11 := Aside0.mk (two_belowM HB10.out hb11)
            clear hb11
            go_wp2_with fail
            refine (awake6 w11 (HE.out.below HB11.out)).mono ?_
            rintro e w12 ⟨rfl, hb12⟩
            have HB12 := Aside0.mk (two_belowM HB11.out hb12)
            clear hb12
            go_wp2_with fail
            go_ret
            exact ⟨rfl, HB12.out⟩
          · have hor : ¬ (0 : Int) < n ∨ ((0 : Int) < n ∧ (x != 3) = false) := by
              by_cases h : (0 : Int) < n
              · refine .inr ⟨h, ?_⟩
                cases hb : x != 3 with
                | false => rfl
                | true => exact absurd ⟨h, by simpa using hb⟩ hgo
              · exact .inl h
            clear hgo
            rcases hor with g1 | ⟨g1, g2⟩
            all_goals
              go_wp2_with fail
              refine (awake6 w10 (HE.out.below HB10.out)).mono ?_
              rintro e w12 ⟨rfl, hb12⟩
              have HB12 := Aside0.mk (two_belowM HB10.out hb12)
              clear hb12
              go_wp2_with fail
              go_ret
              exact ⟨rfl, HB12.out⟩
    · rw [decide_eq_false hm]
      go_wp2_with fail
      refine (awake6 w2 (HE.out.below HB2.out)).mono ?_
      rintro e w3 ⟨rfl, hb3⟩
      have HB3 := Aside0.mk (two_belowM HB2.out hb3)
      clear hb3
      go_wp2_with fail
      go_ret
      exact ⟨rfl, HB3.out⟩
  · go_wp2_with fail
    refine (awake6 w1 (HE.out.below HB1.out)).mono ?_
    rintro e w3 ⟨rfl, hb3⟩
    have HB3 := Aside0.mk (two_belowM HB1.out hb3)
    clear hb3
    go_wp2_with fail
    go_ret
    exact ⟨rfl, HB3.out⟩
end Go.Proofs.YthdinhgadefgaaaDoor.K
