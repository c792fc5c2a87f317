/- The statement VmBounds. -/
import Derived.Test.YthdinhgadefgaaaDoorM15
import Derived.Test.YthdinhgadefgaaaDoorQ3
set_option linter.unusedVariables false
set_option linter.unusedSimpArgs false
set_option maxRecDepth 100000
namespace Go.Proofs.YthdinhgadefgaaaDoor.K
open Go.RowKit Go.Proofs.YthdinhgadefgaaaDoorW.PrintWords Go.Proofs.YthdinhgadefgaaaDoorW.PrintLast Go.Proofs.YthdinhgadefgaaaDoorW.PrintMore Go.Proofs.YthdinhgadefgaaaDoor.U Go.Proofs.YthdinhgadefgaaaDoor.T Go.Proofs.YthdinhgadefgaaaDoor.V

theorem wf64B {n : Int} (h : (Lit.int .i64 n).wf = true) : In64 n := by
  have := bounds_i64 h
  unfold In64
  omega
theorem bound_facts (key : ByteArray) (p : List InsD) (vals : List ByteArray) (fuel : Int) (hp : ∀ x ∈ p, In64 x.a) (hl : vals.length ≤ 1000) (hv : ∀ x ∈ vals, x.size ≤ 1000000) :
    0 ≤ whyF key p vals fuel ∧ whyF key p vals fuel ≤ 5 ∧ (whyF key p vals fuel = 0 ∨ (whyF key p vals fuel ≠ 0 ∧ (toldF key p vals fuel).length = 0)) ∧ (toldF key p vals fuel).length ≤ 40 ∧ (∀ q ∈ toldF key p vals fuel, q.key.size ≤ 16 ∧ q.val.size ≤ 64) ∧ 0 ≤ stepsF key p vals fuel ∧ stepsF key p vals fuel ≤ 2000 := by
  unfold whyF toldF stepsF
  by_cases hm : CodeMay p ∧ 0 ≤ fuel
  · simp only [if_pos hm]
    have h1 := playN_why key p (min fuel 2000).toNat (runs0 vals)
    have h2 := playN_steps key p (min fuel 2000).toNat (runs0 vals)
    have h3 := playN_ok key p hp (min fuel 2000).toNat (runs0 vals) (runs0_ok vals hl hv)
    have h0 : (runs0 vals).steps = 0 := rfl
    have e : finF key p vals fuel = playN key p (min fuel 2000).toNat (runs0 vals) := rfl
    rw [e]
    generalize playN key p (min fuel 2000).toNat (runs0 vals) = r at h1 h2 h3 ⊢
    refine ⟨h1.1, h1.2, ?_, ?_, ?_, by omega, by omega⟩
    · by_cases hr : r.1 = 0
      · exact .inl hr
      · exact .inr ⟨hr, by rw [if_neg hr]; rfl⟩
    · split
      · exact h3.tl
      · show 0 ≤ 40; omega
    · split
      · exact h3.tv
      · intro q hq; cases hq
  · simp only [if_neg hm]
    exact ⟨by omega, by omega, .inr ⟨by omega, rfl⟩, by show 0 ≤ 40; omega, (fun q hq => by cases hq), by omega, by omega⟩
theorem no_facts (key : ByteArray) (p : List InsD) (vals : List ByteArray) (fuel : Int) (hm : ¬ (CodeMay p ∧ 0 ≤ fuel)) : whyF key p vals fuel = 2 ∧ stepsF key p vals fuel = 0 := by
  unfold whyF stepsF
  rw [if_neg hm, if_neg hm]
  exact ⟨rfl, rfl⟩
theorem more_facts (key : ByteArray) (p : List InsD) (vals : List ByteArray) (f : Int) (hf : 2000 ≤ f) : whyF key p vals f = whyF key p vals 2000 ∧ toldF key p vals f = toldF key p vals 2000 := by
  have e : finF key p vals f = finF key p vals 2000 := by unfold finF; rw [show min f 2000 = min (2000 : Int) 2000 from by omega]
  have e2 : (CodeMay p ∧ 0 ≤ f) = (CodeMay p ∧ (0 : Int) ≤ 2000) := by
    apply propext
    constructor
    · rintro ⟨a, _⟩; exact ⟨a, by omega⟩
    · rintro ⟨a, _⟩; exact ⟨a, by omega⟩
  unfold whyF toldF
  simp only [e2, e]
  exact ⟨trivial, trivial⟩
set_option maxHeartbeats 6400000 in
theorem vmBounds_walk (W : World) (hE : Env W) (A0 : Option Addr) (c0 : Nat) (p : List InsD) (hr0 : Kd.C kIns W A0 p.length p) (hc0 : p.length ≤ c0) (hg0 : ∀ x ∈ p, GIns x) (key : ByteArray) (wkey : key.size ≤ 140737488351232)
    (A2 : Option Addr) (c2 : Nat) (vals : List ByteArray) (hr2 : Kd.C Kd.string W A2 vals.length vals) (hc2 : vals.length ≤ c2) (hg2 : ∀ s ∈ vals, s.size ≤ 9223372036854775807) (fuel : Int) (wfu : (Lit.int .i64 fuel).wf = true) (more : Int) (wmo : (Lit.int .i64 more).wf = true) :
    Calls Tryd.prog 8 #[.slice A0 p.length c0, .string key, .slice A2 vals.length c2, .int .i64 fuel, .int .i64 more] W fun e w' => e = .returned (.bool true) ∧ Below W.heap.size W w' := by
  have hpa : ∀ x ∈ p, In64 x.a := fun x hx => wf64B (hg0 x hx).2.1
  have HG := Aside0.mk (great6 A0 c0 p key A2 c2 vals W hr0 hr2 hg2)
  have HPM := Aside0.mk (fun w' (hb : Below W.heap.size W w') => progMay A0 c0 p w' (Kd.C_below hr0 hb) hc0 _ rfl)
  have HRA0 := Aside0.mk (show vals.length ≤ 60 → (∀ s ∈ vals, s.size ≤ 100) → ∀ w' f, Below W.heap.size W w' → In64 f → RunArgs w' A0 c0 p A2 c2 vals f from fun h1 h2 w' f hb hf => ⟨hE.below hb, Kd.C_below hr0 hb, hc0, hpa, Kd.C_below hr2 hb, hc2, by omega, fun x hx => by have := h2 x hx; omega, hf⟩)
  have HE := Aside0.mk hE
  have HPA := Aside0.mk hpa
  have HFU := Aside0.mk (wf64B wfu)
  clear hE hr0 hr2 hc0 hc2 hg0 hg2 wfu wmo wkey hpa
  go_enter Tryd.func8, Tryd.ntmps8
  go_wp2_with fail
  refine HG.out.mono ?_
  rintro e w1 ⟨⟨r, rfl, hr⟩, hb1⟩
  have HB1 := Aside0.mk hb1
  have HR := Aside0.mk hr
  clear hb1 hr
  cases r
  · have HRA := Aside0.mk (HRA0.out (HR.out (by trivial)).2.2.1 (HR.out (by trivial)).2.2.2)
    have hl60 := (HR.out (by trivial)).2.2.1
    have hv100 := (HR.out (by trivial)).2.2.2
    obtain ⟨b1, b2, b3, b4, b5, b6, b7⟩ := bound_facts key p vals fuel HPA.out (by omega) (fun x hx => by have := hv100 x hx; omega)
    have hst40 := (bound_facts key p vals 1099511627776 HPA.out (by omega) (fun x hx => by have := hv100 x hx; omega)).2.2.2.2.2
    obtain ⟨X, hX⟩ : ∃ X, X = toldF key p vals fuel := ⟨_, rfl⟩
    obtain ⟨x, hx⟩ : ∃ x, x = whyF key p vals fuel := ⟨_, rfl⟩
    rw [← hX] at b3 b4 b5
    rw [← hx] at b1 b2 b3
    have HX := Aside0.mk (And.intro hX hx)
    have HB5 := Aside0.mk b5
    have HS40 := Aside0.mk hst40
    have b1' : ¬ x < 0 := by omega
    have b2' : ¬ (5 : Int) < x := by omega
    have b4' : ¬ (40 : Int) < X.length := by omega
    have hor : x = 0 ∨ (x ≠ 0 ∧ (x != 0) = true ∧ X = []) := by
      rcases b3 with h | ⟨h, h2⟩
      · exact .inl h
      · exact .inr ⟨h, by simpa using h, List.eq_nil_of_length_eq_zero h2⟩
    have HOR := Aside0.mk hor
    clear hl60 hv100 b3 b5 b6 b7 hst40 hX hx hor
    go_wp2_with fail
    refine (vmRun A0 c0 p key A2 c2 vals fuel w1 (HRA.out w1 fuel HB1.out HFU.out)).mono ?_
    rintro e w2 ⟨A, c, rfl, hC, hb2⟩
    rw [← HX.out.1] at hC ⊢
    rw [← HX.out.2]
    have HC := Aside0.mk hC
    have HB2 := Aside0.mk (two_belowM HB1.out hb2)
    clear hC hb2
    rcases HOR.out with h0 | ⟨h0, h1, h2⟩
    case' inl => subst h0
    case' inr =>
      have hlz : X.length = 0 := by rw [h2]; rfl
      have HLZ := Aside0.mk hlz
      have hlzI : ((X.length : Int) != 0) = false := by rw [hlz]; rfl
      clear h2
    all_goals
      go_wp2_with fail
      try clear hlz hlzI
      go_loopg [13] X.length (fun kq v13 w' => ∃ k : Nat, k + kq = X.length ∧ v13 = .int .i64 k ∧ Aside0 (Below w2.heap.size w2 w'))
      case atStart => exact ⟨0, by omega, rfl, ⟨Below.refl _ _⟩⟩
      case round =>
        obtain ⟨k, hk, rfl, HB⟩ := hrel
        by_cases hlt : k < X.length
        · try (exfalso; have := HLZ.out; omega)
          all_goals
            obtain ⟨ad, rfl, hx0, hx1⟩ := at_pair2 (Kd.C_below HC.out HB.out) k hlt
            have hq := HB5.out _ (List.getElem_mem hlt)
            obtain ⟨q, hqe⟩ : ∃ q, q = X[k]'hlt := ⟨_, rfl⟩
            rw [← hqe] at hx0 hx1 hq
            obtain ⟨qk, qv⟩ := q
            simp only at hx0 hx1 hq
            have hltI : (k : Int) < X.length := by omega
            have hk16 : ¬ (16 : Int) < qk.size := by omega
            have hv64 : ¬ (64 : Int) < qv.size := by omega
            clear hqe hq
            go_wp2_with fail
            go_roundg (X.length - (k + 1))
            case measure => omega
            case rel => exact ⟨k + 1, by omega, by go_num, HB⟩
        · obtain rfl : k = X.length := by omega
          have HBR := Aside0.mk (two_belowM HB2.out HB.out)
          have HRB := Aside0.mk (fun (w' : World) (hb : Below wr.heap.size wr w') (f : Int) (hf : In64 f) => HRA.out w' f (two_belowM HBR.out hb) hf)
          have hltI : ¬ (X.length : Int) < X.length := by omega
          by_cases hm : CodeMay p ∧ 0 ≤ fuel
          · obtain ⟨hm1, hm2⟩ := hm
            have hfn : ¬ fuel < 0 := by omega
            have hPM := HPM.out wr HBR.out
            rw [decide_eq_true hm1] at hPM
            have HPM2 := Aside0.mk hPM
            have hmr := lowN_range more 1000 (by omega)
            obtain ⟨lm, hlm⟩ : ∃ lm, lm = lowN more 1000 := ⟨_, rfl⟩
            rw [← hlm] at hmr
            have HLM := Aside0.mk hlm
            have HMF := Aside0.mk (more_facts key p vals (2001 + lm) (by omega))
            have hin1 : In64 (2001 + lm) := in64_small (by omega) (by omega)
            have hwr : IntKind.i64.wrap (2001 + lm) = 2001 + lm := IntWalk.i64_in _ (by omega)
            have HIN := Aside0.mk hin1
            obtain ⟨Y, hY⟩ : ∃ Y, Y = toldF key p vals 2000 := ⟨_, rfl⟩
            obtain ⟨y, hy⟩ : ∃ y, y = whyF key p vals 2000 := ⟨_, rfl⟩
            obtain ⟨st, hst⟩ : ∃ st, st = stepsF key p vals 1099511627776 := ⟨_, rfl⟩
            have hst2 : st ≤ 2000 := by rw [hst]; exact HS40.out.2
            have HY := Aside0.mk (And.intro hY hy)
            have HST := Aside0.mk hst
            have hyy : (y == y) = true := by simp
            clear hPM hlm hin1 hY hy hst hm1 hm2
            go_wp2_with fail
            refine HPM2.out.mono ?_
            rintro e w3 ⟨rfl, hb3⟩
            have HB3 := Aside0.mk hb3
            clear hb3
            go_wp2_with fail
            refine (vmRun A0 c0 p key A2 c2 vals 2000 w3 (HRB.out w3 HB3.out 2000 (in64_small (by omega) (by omega)))).mono ?_
            rintro e w4 ⟨Ab, cb, rfl, hCb, hb4⟩
            rw [← HY.out.1] at hCb ⊢
            rw [← HY.out.2]
            have HCb := Aside0.mk hCb
            have HB4 := Aside0.mk (two_belowM HB3.out hb4)
            clear hCb hb4
            go_wp2_with fail
            refine (low more 1000 w4 (by omega) (by omega)).mono ?_
            rintro e w5 ⟨rfl, rfl⟩
            rw [← HLM.out]
            go_wp2_with fail
            refine (vmRun A0 c0 p key A2 c2 vals (2001 + lm) w5 (HRB.out w5 HB4.out (2001 + lm) HIN.out)).mono ?_
            rintro e w6 ⟨Ac, cc, rfl, hCc, hb6⟩
            rw [HMF.out.2, ← HY.out.1] at hCc
            rw [HMF.out.2, HMF.out.1, ← HY.out.1, ← HY.out.2]
            have HCc := Aside0.mk hCc
            have HCb6 := Aside0.mk (Kd.C_below HCb.out hb6)
            have HB6 := Aside0.mk (two_belowM HB4.out hb6)
            clear hCc hb6
            go_wp2_with fail
            refine (samePairs Ab cb Y Ac cc Y w6 HCb6.out HCc.out true (by simp)).mono ?_
            rintro e w7 ⟨rfl, hb7⟩
            have HB7 := Aside0.mk (two_belowM HB6.out hb7)
            clear hb7
            go_wp2_with fail
            refine (vmSteps A0 c0 p key A2 c2 vals 1099511627776 w7 (HRB.out w7 HB7.out 1099511627776 (by unfold In64; omega))).mono ?_
            rintro e w8 ⟨rfl, hb8⟩
            rw [← HST.out]
            have HB8 := Aside0.mk (two_belowM HB7.out hb8)
            clear hb8
            go_wp2_with fail
            refine (awake6 w8 (HE.out.below (two_belowM HBR.out HB8.out))).mono ?_
            rintro e w9 ⟨rfl, hb9⟩
            have HB9 := Aside0.mk (two_belowM (two_belowM HBR.out HB8.out) hb9)
            clear hb9
            go_wp2_with fail
            go_ret
            exact ⟨rfl, HB9.out⟩
          · have HNF := Aside0.mk (no_facts key p vals fuel hm)
            have hx2 := HX.out.2
            rw [HNF.out.1] at hx2
            have hPM := HPM.out wr HBR.out
            have HPM2 := Aside0.mk hPM
            obtain ⟨rp, hrp⟩ : ∃ rp, rp = decide (CodeMay p) := ⟨_, rfl⟩
            rw [← hrp] at HPM2
            have hor2 : rp = false ∨ (rp = true ∧ fuel < 0) := by
              cases h : rp with
              | false => exact .inl rfl
              | true =>
                rw [h] at hrp
                have hc := of_decide_eq_true hrp.symm
                refine .inr ⟨rfl, ?_⟩
                have h2 : ¬ 0 ≤ fuel := fun h0 => hm ⟨hc, h0⟩
                omega
            clear hPM hrp hm
            try (exfalso; omega)
            all_goals
              subst hx2
              rcases hor2 with rfl | ⟨rfl, hfn⟩
              all_goals
                go_wp2_with fail
                refine HPM2.out.mono ?_
                rintro e w3 ⟨rfl, hb3⟩
                have HB3 := Aside0.mk hb3
                clear hb3
                go_wp2_with fail
                refine (vmSteps A0 c0 p key A2 c2 vals fuel w3 (HRB.out w3 HB3.out fuel HFU.out)).mono ?_
                rintro e w4 ⟨rfl, hb4⟩
                rw [HNF.out.2]
                have HB4 := Aside0.mk (two_belowM HB3.out hb4)
                clear hb4
                go_wp2_with fail
                refine (awake6 w4 (HE.out.below (two_belowM HBR.out HB4.out))).mono ?_
                rintro e w5 ⟨rfl, hb5⟩
                have HB5 := Aside0.mk (two_belowM (two_belowM HBR.out HB4.out) hb5)
                clear hb5
                go_wp2_with fail
                go_ret
                exact ⟨rfl, HB5.out⟩
  · go_wp2_with fail
    refine (awake6 w1 (HE.out.below HB1.out)).mono ?_
    rintro e w3 ⟨rfl, hb3⟩
    have HB3 := Aside0.mk (two_belowM HB1.out hb3)
    clear hb3
    go_wp2_with fail
    go_ret
    exact ⟨rfl, HB3.out⟩
end Go.Proofs.YthdinhgadefgaaaDoor.K
