/- The statement CutJoins. -/
import Derived.Test.YtocooepdibgelaaC7
import Derived.Deep.RegionHeld3
set_option linter.unusedVariables false
set_option linter.unusedSimpArgs false
namespace Go.Proofs.Ytocooepdibgelaa.T
open Go.RowKit Go.Proofs.YtocooepdibgelaaW.PrintWords Go.Proofs.YtocooepdibgelaaW.PrintLast Go.Proofs.YtocooepdibgelaaW.PrintMore Go.Proofs.Ytocooepdibgelaa.U Go.Proofs.Ytocooepdibgelaa.K
theorem open_22 : Opens Try.prog 22 kRows (fun xs => ∀ x ∈ xs, GPair x) := Opens.slice 37 Try.underlying22 (by kernel_rfl) open_37
end Go.Proofs.Ytocooepdibgelaa.T
namespace Go.Proofs.Ytocooepdibgelaa.K
open Go.RowKit Go.Proofs.YtocooepdibgelaaW.PrintWords Go.Proofs.YtocooepdibgelaaW.PrintLast Go.Proofs.YtocooepdibgelaaW.PrintMore Go.Proofs.Ytocooepdibgelaa.U Go.Proofs.Ytocooepdibgelaa.T
attribute [local go_sem high] eqA_pair
attribute [local go_sem] max2_int min2_int

theorem flat_small (xss : List (List PairD)) (h : ∀ l ∈ xss, l.length ≤ 20) : xss.flatten.length ≤ 20 * xss.length := by
  induction xss with
  | nil => simp
  | cons l xss ih =>
    have h1 := ih (fun x hx => h x (List.mem_cons_of_mem _ hx))
    have h2 := h l (List.mem_cons_self ..)
    rw [List.flatten_cons, List.length_append, List.length_cons]
    omega

set_option maxRecDepth 100000 in
set_option maxHeartbeats 4000000 in
theorem cutJoins_walk (W : World) (A0 : Option Addr) (c0 : Nat) (l0 : List (List PairD)) (hr0 : Kd.C kRows W A0 l0.length l0) (hc0 : l0.length ≤ c0) (hg0 : ∀ l ∈ l0, ∀ x ∈ l, GPair x) (k : Int) (wk : (Lit.int .i64 k).wf = true) :
    Calls Try.prog 13 #[.slice A0 l0.length c0, .int .i64 k] W fun e w' => e = .returned (.bool true) ∧ Below W.heap.size W w' := by
  have hm0 := Kd.C_max hr0
  have HR0 := Aside0.mk hr0
  have HG0 := Aside0.mk hg0
  clear hr0 hg0 wk
  rcases Nat.lt_or_ge 10 l0.length with h10 | h10
  · go_enter Try.func13, Try.ntmps13
    go_wp2_with fail
    refine (awake10 _).mono ?_
    rintro e w6 ⟨rfl, hb6⟩
    go_wp2_with fail
    go_ret
    exact ⟨rfl, hb6⟩
  · go_enter Try.func13, Try.ntmps13
    go_wp2_with fail
    go_loopg [5] l0.length (fun kq v5 w' => ∃ i : Nat, i + kq = l0.length ∧ v5 = .int .i64 i ∧ Aside0 (∀ j (hj : j < l0.length), j < i → l0[j].length ≤ 20) ∧ Aside0 (Below W.heap.size W w'))
    case atStart => exact ⟨0, by omega, rfl, ⟨fun j hj h => by omega⟩, ⟨Below.refl _ _⟩⟩
    case round =>
      obtain ⟨i, hi, rfl, HA, HB⟩ := hrel
      by_cases hlt : i < l0.length
      · obtain ⟨ad, A1, c1, rfl, hx0, hle, hC⟩ := at_rows (Kd.C_below HR0.out HB.out) i hlt
        obtain ⟨l1, hl1⟩ : ∃ l1, l1 = l0[i] := ⟨_, rfl⟩
        rw [← hl1] at hx0 hle hC
        have HC := Aside0.mk hC
        have HL1 := Aside0.mk hl1
        have HGl : Aside0 (∀ x ∈ l1, GPair x) := ⟨by rw [hl1]; exact HG0.out _ (List.getElem_mem _)⟩
        clear hl1 hC
        go_wp2_with fail
        refine (greatPairs A1 c1 l1 20 wr HC.out HGl.out).mono ?_
        rintro e w4 ⟨⟨r, rfl, hr⟩, hb4⟩
        have HB4 := Aside0.mk (two_andc _ _ _ HB.out hb4)
        clear hb4
        cases r with
        | true =>
          go_wp2_with fail
          refine (awake10 _).mono ?_
          rintro e w6 ⟨rfl, hb6⟩
          have HB6 := Aside0.mk (two_andc _ _ _ HB4.out hb6)
          clear hb6 hr
          go_wp2_with fail
          go_ret
          exact ⟨rfl, HB6.out⟩
        | false =>
          have hle20 := (hr rfl).1
          clear hr
          go_wp2_with fail
          go_roundg (l0.length - (i + 1))
          case measure => omega
          case rel => exact ⟨i + 1, by omega, by go_num, ⟨fun j hj h => by
            rcases Nat.lt_or_ge j i with h1 | h1
            · exact HA.out j hj h1
            · obtain rfl : j = i := by omega
              rw [← HL1.out]
              omega⟩, HB4⟩
      · have h20 : ∀ l ∈ l0, l.length ≤ 20 := fun l hl => by
          obtain ⟨j, hj, rfl⟩ := List.getElem_of_mem hl
          exact HA.out j hj (by omega)
        have hfl : l0.flatten.length ≤ 200 := by have := flat_small l0 h20; omega
        have HFL := Aside0.mk hfl
        clear h20 hfl
        obtain ⟨q, hq⟩ : ∃ q, q = lowN k (l0.length + 1) := ⟨_, rfl⟩
        have rq : 0 ≤ q ∧ q < (l0.length : Int) + 1 := by rw [hq]; exact lowN_range _ _ (by omega)
        have HQ := Aside0.mk hq
        obtain ⟨m, rfl⟩ := Int.eq_ofNat_of_zero_le rq.1
        have hml : m ≤ l0.length := by omega
        clear hq rq
        go_wp2_with fail
        refine (low k _ _ (by omega) (by omega)).mono ?_
        rintro e w5 ⟨rfl, rfl⟩
        rw [← HQ.out]
        go_wp2_with fail
        refine (joinC A0 c0 l0 _ (Kd.C_below HR0.out HB.out) (by have := HFL.out; omega)).mono ?_
        rintro e w6 ⟨va, X, rfl, hv6, HX, hb6⟩
        obtain ⟨Aa, ca, rfl, _, _⟩ := hv6.reads
        have HV6 := Aside0.mk hv6
        have HB6 := Aside0.mk (two_andc _ _ _ HB.out hb6)
        clear hv6 hb6
        go_wp2_with fail
        obtain ⟨B2, hB2⟩ : ∃ B2, B2 = if c0 = m then A0 else A0.map (·.add m) := ⟨_, rfl⟩
        have J1 : Aside0 (∀ w', Below W.heap.size W w' → Calls Try.prog 49 #[.slice A0 m c0] w' fun e w'' => ∃ v Y, e = .returned v ∧ Own kPair 37 w'' w'.heap.size v Y ∧ Aside0 (Y = (l0.take m).flatten) ∧ Below w'.heap.size w' w'') := ⟨fun w' hw => by
          have hct := Kd.C_take (m := m) (Kd.C_below HR0.out hw) hml
          have hlen : (l0.take m).length = m := by rw [List.length_take]; omega
          have h := joinC A0 c0 (l0.take m) w' hct (Nat.le_trans (flat_take_le l0 m) (by have := HFL.out; omega))
          rw [hlen] at h
          exact h⟩
        have J2 : Aside0 (∀ w', Below W.heap.size W w' → Calls Try.prog 49 #[.slice B2 (l0.length - m) (c0 - m)] w' fun e w'' => ∃ v Y, e = .returned v ∧ Own kPair 37 w'' w'.heap.size v Y ∧ Aside0 (Y = (l0.drop m).flatten) ∧ Below w'.heap.size w' w'') := ⟨fun w' hw => by
          have hcm := Kd.C_mid (lo := m) (hi := l0.length) (Kd.C_below HR0.out hw) hml (Nat.le_refl _) hc0
          rw [List.take_length, show m * kRows.sz = m from Nat.mul_one m] at hcm
          have hlen : (l0.drop m).length = l0.length - m := List.length_drop ..
          have hfd : (l0.drop m).flatten.length ≤ 100000000 := by
            have h1 := HFL.out
            rw [← List.take_append_drop m l0, List.flatten_append, List.length_append] at h1
            omega
          have h := joinC B2 (c0 - m) (l0.drop m) w' (by rw [hB2]; exact hcm) hfd
          rw [hlen] at h
          exact h⟩
        have HBd := Aside0.mk (below_drew1 HB6.out)
        have HVd := Aside0.mk (HV6.out.below (below_drew1 (Below.refl _ _)))
        have HXF : Aside0 ((l0.take m).flatten ++ (l0.drop m).flatten = l0.flatten) := ⟨by rw [← List.flatten_append, List.take_append_drop]⟩
        have HSML : Aside0 ((l0.take m).flatten.length + (l0.drop m).flatten.length ≤ 200) := ⟨by rw [← List.length_append, HXF.out]; exact HFL.out⟩
        have key : (A0 = none → m = 0 ∧ l0.length = 0) := fun h => by
          rcases Nat.eq_zero_or_pos l0.length with h0 | h0
          · omega
          · obtain ⟨ad, e, _⟩ := HR0.out.2.2 h0
            rw [h] at e
            cases e
        cases A0 with
        | none =>
          have hm00 : m = 0 := (key rfl).1
          subst hm00
          have hB2' : B2 = none := by rw [hB2]; split <;> rfl
          subst hB2'
          simp only [Nat.sub_zero] at J2
          clear key hB2
          go_region_held3 (fun w' => Below W.heap.size W w') (first | exact HBd.out | exact HB7.out | exact HB8.out | exact HB8.out.alloc HB8.out.size _ | exact HB9.out)
           (first
            | (go_at_call 49; refine (joinC _ _ [X7, X8] _ (lit_rows2 w8 A7 A8 c7 c8 X7 X8 _ _ rfl HC7.out HC8.out k7 k8) (by rw [HX7.out, HX8.out]; have := HSML.out; simp only [List.flatten_cons, List.flatten_nil, List.append_nil, List.length_append]; omega)).mono ?_; rintro e w9 ⟨v9, X9, rfl, hv9, HX9, hb9⟩; obtain ⟨A9, c9, rfl, _, _⟩ := hv9.reads; have HV9 := Aside0.mk hv9; have hba8 := (Below.refl w8.heap.size w8).alloc (Nat.le_refl _) (.cells #[.slice A7 X7.length c7, .slice A8 X8.length c8] 22); have HB9 := Aside0.mk (below_then (HB8.out.alloc HB8.out.size _) (HB8.out.alloc HB8.out.size _).size hb9); have HVA9 := Aside0.mk ((HVA8.out.below hba8).below hb9); have L89 := Aside0.mk hba8.size; clear hv9 hb9 hba8)
            | (go_at_call 49; refine (J2.out _ HB7.out).mono ?_; rintro e w8 ⟨v8, X8, rfl, hv8, HX8, hb8⟩; obtain ⟨A8, c8, rfl, k8, hr8⟩ := hv8.reads; have HC8 := Aside0.mk hr8; have HC7 := Aside0.mk (Kd.C_below HC7a.out hb8); have HB8 := Aside0.mk (two_andc _ _ _ HB7.out hb8); have HVA8 := Aside0.mk (HVA7.out.below hb8); have L78 := Aside0.mk hb8.size; clear hv8 hb8 hr8)
            | (go_at_call 49; refine (J1.out _ HBd.out).mono ?_; rintro e w7 ⟨v7, X7, rfl, hv7, HX7, hb7⟩; obtain ⟨A7, c7, rfl, k7, hr7⟩ := hv7.reads; have HC7a := Aside0.mk hr7; have HB7 := Aside0.mk (two_andc _ _ _ HBd.out hb7); have HVA7 := Aside0.mk (HVd.out.below hb7); have L67 := Aside0.mk hb7.size; clear hv7 hb7 hr7))
          have HX9X : Aside0 (X9 = X) := ⟨by rw [HX9.out, HX.out, HX7.out, HX8.out, ← HXF.out]; simp⟩
          have LA := Aside0.mk HV6.out.lt
          go_wp2_with fail
          go_loopg [8, 9] l0.length (fun kq v8 v9 w' => ∃ (i s : Nat), i + kq = l0.length ∧ v9 = .int .i64 i ∧ v8 = .int .i64 s ∧ Aside0 (s = (l0.take i).flatten.length) ∧ Drawn0 w9 w')
          case atStart => exact ⟨0, 0, by omega, rfl, rfl, ⟨rfl⟩, Drawn0.refl _⟩
          case round =>
            obtain ⟨i, s, hi, rfl, rfl, HS, ⟨m1, rfl⟩⟩ := hrel
            by_cases hlt : i < l0.length
            · obtain ⟨ad, A1, c1, hAA, hx0, hle, hC⟩ := at_rows (Kd.C_below HR0.out HB9.out) i hlt
              cases hAA
            · have hsx : (s : Int) = X.length := by rw [HS.out, HX.out, List.take_of_length_le (by omega)]
              have hd9 : Below w9.heap.size w9 (w9.drewN m1) := (Drawn0.step (Drawn0.refl w9) m1).below
              have HV10 := Aside0.mk (HV9.out.below hd9)
              have HVA10 := Aside0.mk (HVA9.out.below hd9)
              have HB10 := Aside0.mk (two_andc _ _ _ HB9.out hd9)
              rw [hsx]
              clear hd9 hsx HS
              go_wp2_with fail
              refine (samePairs _ _ X _ _ X9 _ HVA10.out.is.2.2 HV10.out.is.2.2 true (by rw [HX9X.out]; simp)).mono ?_
              rintro e w11 ⟨rfl, hb11⟩
              have HV11 := Aside0.mk (HV10.out.below hb11)
              have HVA11 := Aside0.mk (HVA10.out.below hb11)
              have HB11 := Aside0.mk (two_andc _ _ _ HB10.out hb11)
              clear hb11
              go_wp2_with fail
              refine (joinC none 0 [] w11 (Kd.C_nil _ _) (by simp)).mono ?_
              rintro e w12 ⟨vz, Xz, rfl, hvz, HXz, hb12⟩
              obtain ⟨Az, cz, rfl, _, _⟩ := hvz.reads
              have hz0 : Xz.length = 0 := by rw [HXz.out]; rfl
              have HV12 := Aside0.mk (HV11.out.below hb12)
              have HVA12 := Aside0.mk (HVA11.out.below hb12)
              have HB12 := Aside0.mk (two_andc _ _ _ HB11.out hb12)
              rw [hz0]
              clear hvz hb12 hz0
              go_wp2_with fail
              refine (overPairs _ X W.heap.size w12 (HVA12.out.lower HB.out.size) HB12.out.size (by rw [HX.out]; have := HFL.out; omega)).mono ?_
              rintro e w13 ⟨rfl, hg13⟩
              have HV13 := Aside0.mk (HV12.out.other flat_pair hg13 (fun k hk he => by have h1 := HV12.out.base_ k hk; have h2 := LA.out k he; have h3 := L67.out; have h4 := L78.out; have h5 := L89.out; have h6 : w6.drew.heap.size = w6.heap.size := rfl; omega))
              have HB13 := Aside0.mk (HB12.out.grown hg13 HB12.out.size (fun k hk => Nat.le_trans HB.out.size (HVA12.out.base_ k hk)))
              clear hg13
              go_wp2_with fail
              refine (joinC _ c0 l0 w13 (Kd.C_below HR0.out HB13.out) (by have := HFL.out; omega)).mono ?_
              rintro e w14 ⟨vy, Xy, rfl, hvy, HXy, hb14⟩
              obtain ⟨Ay, cy, rfl, _, hry⟩ := hvy.reads
              have HRY := Aside0.mk hry
              have HV14 := Aside0.mk (HV13.out.below hb14)
              have HB14 := Aside0.mk (two_andc _ _ _ HB13.out hb14)
              clear hvy hb14 hry
              go_wp2_with fail
              refine (samePairs _ _ Xy _ _ X9 w14 HRY.out HV14.out.is.2.2 true (by rw [HXy.out, HX9X.out, HX.out]; simp)).mono ?_
              rintro e w15 ⟨rfl, hb15⟩
              have HB15 := Aside0.mk (two_andc _ _ _ HB14.out hb15)
              clear hb15
              go_wp2_with fail
              refine (awake10 _).mono ?_
              rintro e w16 ⟨rfl, hb16⟩
              have HB16 := Aside0.mk (two_andc _ _ _ HB15.out hb16)
              clear hb16
              go_wp2_with fail
              go_ret
              exact ⟨rfl, HB16.out⟩
        | some ad0 =>
          clear key
          by_cases hcm : c0 = m
          · rw [if_pos hcm] at hB2
            subst hB2
            subst hcm
            have hl00 : l0.length - c0 = 0 := by omega
            simp only [Nat.sub_self, hl00] at J2
            clear hl00
            go_region_held3 (fun w' => Below W.heap.size W w') (first | exact HBd.out | exact HB7.out | exact HB8.out | exact HB8.out.alloc HB8.out.size _ | exact HB9.out)
             (first
              | (go_at_call 49; refine (joinC _ _ [X7, X8] _ (lit_rows2 w8 A7 A8 c7 c8 X7 X8 _ _ rfl HC7.out HC8.out k7 k8) (by rw [HX7.out, HX8.out]; have := HSML.out; simp only [List.flatten_cons, List.flatten_nil, List.append_nil, List.length_append]; omega)).mono ?_; rintro e w9 ⟨v9, X9, rfl, hv9, HX9, hb9⟩; obtain ⟨A9, c9, rfl, _, _⟩ := hv9.reads; have HV9 := Aside0.mk hv9; have hba8 := (Below.refl w8.heap.size w8).alloc (Nat.le_refl _) (.cells #[.slice A7 X7.length c7, .slice A8 X8.length c8] 22); have HB9 := Aside0.mk (below_then (HB8.out.alloc HB8.out.size _) (HB8.out.alloc HB8.out.size _).size hb9); have HVA9 := Aside0.mk ((HVA8.out.below hba8).below hb9); have L89 := Aside0.mk hba8.size; clear hv9 hb9 hba8)
              | (go_at_call 49; refine (J2.out _ HB7.out).mono ?_; rintro e w8 ⟨v8, X8, rfl, hv8, HX8, hb8⟩; obtain ⟨A8, c8, rfl, k8, hr8⟩ := hv8.reads; have HC8 := Aside0.mk hr8; have HC7 := Aside0.mk (Kd.C_below HC7a.out hb8); have HB8 := Aside0.mk (two_andc _ _ _ HB7.out hb8); have HVA8 := Aside0.mk (HVA7.out.below hb8); have L78 := Aside0.mk hb8.size; clear hv8 hb8 hr8)
              | (go_at_call 49; refine (J1.out _ HBd.out).mono ?_; rintro e w7 ⟨v7, X7, rfl, hv7, HX7, hb7⟩; obtain ⟨A7, c7, rfl, k7, hr7⟩ := hv7.reads; have HC7a := Aside0.mk hr7; have HB7 := Aside0.mk (two_andc _ _ _ HBd.out hb7); have HVA7 := Aside0.mk (HVd.out.below hb7); have L67 := Aside0.mk hb7.size; clear hv7 hb7 hr7))
            have HX9X : Aside0 (X9 = X) := ⟨by rw [HX9.out, HX.out, HX7.out, HX8.out, ← HXF.out]; simp⟩
            have LA := Aside0.mk HV6.out.lt
            go_wp2_with fail
            go_loopg [8, 9] l0.length (fun kq v8 v9 w' => ∃ (i s : Nat), i + kq = l0.length ∧ v9 = .int .i64 i ∧ v8 = .int .i64 s ∧ Aside0 (s = (l0.take i).flatten.length) ∧ Drawn0 w9 w')
            case atStart => exact ⟨0, 0, by omega, rfl, rfl, ⟨rfl⟩, Drawn0.refl _⟩
            case round =>
              obtain ⟨i, s, hi, rfl, rfl, HS, ⟨m1, rfl⟩⟩ := hrel
              by_cases hlt : i < l0.length
              · obtain ⟨ad, A1, c1, hAA, hx0, hle, hC⟩ := at_rows (Kd.C_below HR0.out HB9.out) i hlt
                have hAA' := hAA.symm
                cases hAA'
                obtain ⟨l1, hl1⟩ : ∃ l1, l1 = l0[i] := ⟨_, rfl⟩
                rw [← hl1] at hx0 hle
                have hsum : s + l1.length = (l0.take (i + 1)).flatten.length := by rw [flat_take _ _ hlt, List.length_append, HS.out, hl1]
                have hsm : s + l1.length ≤ 200 := by rw [hsum]; exact Nat.le_trans (flat_take_le _ _) HFL.out
                have HSUM := Aside0.mk hsum
                clear hsum hl1 hC
                go_wp2_with fail
                go_roundg (l0.length - (i + 1))
                case measure => omega
                case rel => exact ⟨i + 1, s + l1.length, by omega, by go_num, by go_num, HSUM, by repeat (first | exact Drawn0.refl _ | apply Drawn0.step)⟩
              · have hsx : (s : Int) = X.length := by rw [HS.out, HX.out, List.take_of_length_le (by omega)]
                have hd9 : Below w9.heap.size w9 (w9.drewN m1) := (Drawn0.step (Drawn0.refl w9) m1).below
                have HV10 := Aside0.mk (HV9.out.below hd9)
                have HVA10 := Aside0.mk (HVA9.out.below hd9)
                have HB10 := Aside0.mk (two_andc _ _ _ HB9.out hd9)
                rw [hsx]
                clear hd9 hsx HS
                go_wp2_with fail
                refine (samePairs _ _ X _ _ X9 _ HVA10.out.is.2.2 HV10.out.is.2.2 true (by rw [HX9X.out]; simp)).mono ?_
                rintro e w11 ⟨rfl, hb11⟩
                have HV11 := Aside0.mk (HV10.out.below hb11)
                have HVA11 := Aside0.mk (HVA10.out.below hb11)
                have HB11 := Aside0.mk (two_andc _ _ _ HB10.out hb11)
                clear hb11
                go_wp2_with fail
                refine (joinC none 0 [] w11 (Kd.C_nil _ _) (by simp)).mono ?_
                rintro e w12 ⟨vz, Xz, rfl, hvz, HXz, hb12⟩
                obtain ⟨Az, cz, rfl, _, _⟩ := hvz.reads
                have hz0 : Xz.length = 0 := by rw [HXz.out]; rfl
                have HV12 := Aside0.mk (HV11.out.below hb12)
                have HVA12 := Aside0.mk (HVA11.out.below hb12)
                have HB12 := Aside0.mk (two_andc _ _ _ HB11.out hb12)
                rw [hz0]
                clear hvz hb12 hz0
                go_wp2_with fail
                refine (overPairs _ X W.heap.size w12 (HVA12.out.lower HB.out.size) HB12.out.size (by rw [HX.out]; have := HFL.out; omega)).mono ?_
                rintro e w13 ⟨rfl, hg13⟩
                have HV13 := Aside0.mk (HV12.out.other flat_pair hg13 (fun k hk he => by have h1 := HV12.out.base_ k hk; have h2 := LA.out k he; have h3 := L67.out; have h4 := L78.out; have h5 := L89.out; have h6 : w6.drew.heap.size = w6.heap.size := rfl; omega))
                have HB13 := Aside0.mk (HB12.out.grown hg13 HB12.out.size (fun k hk => Nat.le_trans HB.out.size (HVA12.out.base_ k hk)))
                clear hg13
                go_wp2_with fail
                refine (joinC _ c0 l0 w13 (Kd.C_below HR0.out HB13.out) (by have := HFL.out; omega)).mono ?_
                rintro e w14 ⟨vy, Xy, rfl, hvy, HXy, hb14⟩
                obtain ⟨Ay, cy, rfl, _, hry⟩ := hvy.reads
                have HRY := Aside0.mk hry
                have HV14 := Aside0.mk (HV13.out.below hb14)
                have HB14 := Aside0.mk (two_andc _ _ _ HB13.out hb14)
                clear hvy hb14 hry
                go_wp2_with fail
                refine (samePairs _ _ Xy _ _ X9 w14 HRY.out HV14.out.is.2.2 true (by rw [HXy.out, HX9X.out, HX.out]; simp)).mono ?_
                rintro e w15 ⟨rfl, hb15⟩
                have HB15 := Aside0.mk (two_andc _ _ _ HB14.out hb15)
                clear hb15
                go_wp2_with fail
                refine (awake10 _).mono ?_
                rintro e w16 ⟨rfl, hb16⟩
                have HB16 := Aside0.mk (two_andc _ _ _ HB15.out hb16)
                clear hb16
                go_wp2_with fail
                go_ret
                exact ⟨rfl, HB16.out⟩
          · rw [if_neg hcm] at hB2
            subst hB2
            have hq0 : (0 : Int) ≤ (m : Int) := by omega
            have hq1 : (m : Int) ≤ (l0.length : Int) := by omega
            have hq2 : (m : Int) ≤ (c0 : Int) := by omega
            have hq3 : (l0.length : Int) ≤ (c0 : Int) := by omega
            have hq4 : m ≤ c0 := by omega
            go_region_held3 (fun w' => Below W.heap.size W w') (first | exact HBd.out | exact HB7.out | exact HB8.out | exact HB8.out.alloc HB8.out.size _ | exact HB9.out)
             (first
              | (go_at_call 49; refine (joinC _ _ [X7, X8] _ (lit_rows2 w8 A7 A8 c7 c8 X7 X8 _ _ rfl HC7.out HC8.out k7 k8) (by rw [HX7.out, HX8.out]; have := HSML.out; simp only [List.flatten_cons, List.flatten_nil, List.append_nil, List.length_append]; omega)).mono ?_; rintro e w9 ⟨v9, X9, rfl, hv9, HX9, hb9⟩; obtain ⟨A9, c9, rfl, _, _⟩ := hv9.reads; have HV9 := Aside0.mk hv9; have hba8 := (Below.refl w8.heap.size w8).alloc (Nat.le_refl _) (.cells #[.slice A7 X7.length c7, .slice A8 X8.length c8] 22); have HB9 := Aside0.mk (below_then (HB8.out.alloc HB8.out.size _) (HB8.out.alloc HB8.out.size _).size hb9); have HVA9 := Aside0.mk ((HVA8.out.below hba8).below hb9); have L89 := Aside0.mk hba8.size; clear hv9 hb9 hba8)
              | (go_at_call 49; refine (J2.out _ HB7.out).mono ?_; rintro e w8 ⟨v8, X8, rfl, hv8, HX8, hb8⟩; obtain ⟨A8, c8, rfl, k8, hr8⟩ := hv8.reads; have HC8 := Aside0.mk hr8; have HC7 := Aside0.mk (Kd.C_below HC7a.out hb8); have HB8 := Aside0.mk (two_andc _ _ _ HB7.out hb8); have HVA8 := Aside0.mk (HVA7.out.below hb8); have L78 := Aside0.mk hb8.size; clear hv8 hb8 hr8)
              | (go_at_call 49; refine (J1.out _ HBd.out).mono ?_; rintro e w7 ⟨v7, X7, rfl, hv7, HX7, hb7⟩; obtain ⟨A7, c7, rfl, k7, hr7⟩ := hv7.reads; have HC7a := Aside0.mk hr7; have HB7 := Aside0.mk (two_andc _ _ _ HBd.out hb7); have HVA7 := Aside0.mk (HVd.out.below hb7); have L67 := Aside0.mk hb7.size; clear hv7 hb7 hr7))
            have HX9X : Aside0 (X9 = X) := ⟨by rw [HX9.out, HX.out, HX7.out, HX8.out, ← HXF.out]; simp⟩
            have LA := Aside0.mk HV6.out.lt
            go_wp2_with fail
            go_loopg [8, 9] l0.length (fun kq v8 v9 w' => ∃ (i s : Nat), i + kq = l0.length ∧ v9 = .int .i64 i ∧ v8 = .int .i64 s ∧ Aside0 (s = (l0.take i).flatten.length) ∧ Drawn0 w9 w')
            case atStart => exact ⟨0, 0, by omega, rfl, rfl, ⟨rfl⟩, Drawn0.refl _⟩
            case round =>
              obtain ⟨i, s, hi, rfl, rfl, HS, ⟨m1, rfl⟩⟩ := hrel
              by_cases hlt : i < l0.length
              · obtain ⟨ad, A1, c1, hAA, hx0, hle, hC⟩ := at_rows (Kd.C_below HR0.out HB9.out) i hlt
                have hAA' := hAA.symm
                cases hAA'
                obtain ⟨l1, hl1⟩ : ∃ l1, l1 = l0[i] := ⟨_, rfl⟩
                rw [← hl1] at hx0 hle
                have hsum : s + l1.length = (l0.take (i + 1)).flatten.length := by rw [flat_take _ _ hlt, List.length_append, HS.out, hl1]
                have hsm : s + l1.length ≤ 200 := by rw [hsum]; exact Nat.le_trans (flat_take_le _ _) HFL.out
                have HSUM := Aside0.mk hsum
                clear hsum hl1 hC
                go_wp2_with fail
                go_roundg (l0.length - (i + 1))
                case measure => omega
                case rel => exact ⟨i + 1, s + l1.length, by omega, by go_num, by go_num, HSUM, by repeat (first | exact Drawn0.refl _ | apply Drawn0.step)⟩
              · have hsx : (s : Int) = X.length := by rw [HS.out, HX.out, List.take_of_length_le (by omega)]
                have hd9 : Below w9.heap.size w9 (w9.drewN m1) := (Drawn0.step (Drawn0.refl w9) m1).below
                have HV10 := Aside0.mk (HV9.out.below hd9)
                have HVA10 := Aside0.mk (HVA9.out.below hd9)
                have HB10 := Aside0.mk (two_andc _ _ _ HB9.out hd9)
                rw [hsx]
                clear hd9 hsx HS
                go_wp2_with fail
                refine (samePairs _ _ X _ _ X9 _ HVA10.out.is.2.2 HV10.out.is.2.2 true (by rw [HX9X.out]; simp)).mono ?_
                rintro e w11 ⟨rfl, hb11⟩
                have HV11 := Aside0.mk (HV10.out.below hb11)
                have HVA11 := Aside0.mk (HVA10.out.below hb11)
                have HB11 := Aside0.mk (two_andc _ _ _ HB10.out hb11)
                clear hb11
                go_wp2_with fail
                refine (joinC none 0 [] w11 (Kd.C_nil _ _) (by simp)).mono ?_
                rintro e w12 ⟨vz, Xz, rfl, hvz, HXz, hb12⟩
                obtain ⟨Az, cz, rfl, _, _⟩ := hvz.reads
                have hz0 : Xz.length = 0 := by rw [HXz.out]; rfl
                have HV12 := Aside0.mk (HV11.out.below hb12)
                have HVA12 := Aside0.mk (HVA11.out.below hb12)
                have HB12 := Aside0.mk (two_andc _ _ _ HB11.out hb12)
                rw [hz0]
                clear hvz hb12 hz0
                go_wp2_with fail
                refine (overPairs _ X W.heap.size w12 (HVA12.out.lower HB.out.size) HB12.out.size (by rw [HX.out]; have := HFL.out; omega)).mono ?_
                rintro e w13 ⟨rfl, hg13⟩
                have HV13 := Aside0.mk (HV12.out.other flat_pair hg13 (fun k hk he => by have h1 := HV12.out.base_ k hk; have h2 := LA.out k he; have h3 := L67.out; have h4 := L78.out; have h5 := L89.out; have h6 : w6.drew.heap.size = w6.heap.size := rfl; omega))
                have HB13 := Aside0.mk (HB12.out.grown hg13 HB12.out.size (fun k hk => Nat.le_trans HB.out.size (HVA12.out.base_ k hk)))
                clear hg13
                go_wp2_with fail
                refine (joinC _ c0 l0 w13 (Kd.C_below HR0.out HB13.out) (by have := HFL.out; omega)).mono ?_
                rintro e w14 ⟨vy, Xy, rfl, hvy, HXy, hb14⟩
                obtain ⟨Ay, cy, rfl, _, hry⟩ := hvy.reads
                have HRY := Aside0.mk hry
                have HV14 := Aside0.mk (HV13.out.below hb14)
                have HB14 := Aside0.mk (two_andc _ _ _ HB13.out hb14)
                clear hvy hb14 hry
                go_wp2_with fail
                refine (samePairs _ _ Xy _ _ X9 w14 HRY.out HV14.out.is.2.2 true (by rw [HXy.out, HX9X.out, HX.out]; simp)).mono ?_
                rintro e w15 ⟨rfl, hb15⟩
                have HB15 := Aside0.mk (two_andc _ _ _ HB14.out hb15)
                clear hb15
                go_wp2_with fail
                refine (awake10 _).mono ?_
                rintro e w16 ⟨rfl, hb16⟩
                have HB16 := Aside0.mk (two_andc _ _ _ HB15.out hb16)
                clear hb16
                go_wp2_with fail
                go_ret
                exact ⟨rfl, HB16.out⟩
end Go.Proofs.Ytocooepdibgelaa.K
