/- The statements of chapter 14. -/
import Derived.Test.YtnnjfideeeampaaD1
set_option linter.unusedVariables false
set_option linter.unusedSimpArgs false
namespace Go.Proofs.Ytnnjfideeeampaa.K
open Go.RowKit Go.Proofs.YtnnjfideeeampaaW.PrintWords Go.Proofs.YtnnjfideeeampaaW.PrintLast Go.Proofs.YtnnjfideeeampaaW.PrintMore Go.Proofs.Ytnnjfideeeampaa.U Go.Proofs.Ytnnjfideeeampaa.T

theorem two_andd (w w1 w2 : World) (h : Below w.heap.size w w1) (k : Below w1.heap.size w1 w2) : Below w.heap.size w w2 := below_then h h.size k
theorem two_ch (w w1 w2 : World) (S : Nat → Prop) (h : Below w.heap.size w w1) (k : Ch w1 w2 S) (hS : ∀ k, S k → w.heap.size ≤ k) : Below w.heap.size w w2 := Below.ch h k h.size hS

set_option maxHeartbeats 1600000 in
theorem awake14 (w : World) : Calls Try.prog 11 #[] w fun e w' => e = .returned (.bool true) ∧ Below w.heap.size w w' := by
  have hcr : 4 = crashN 5 3 1 := by decide
  have HCR := Aside0.mk hcr
  clear hcr
  go_enter Try.func11, Try.ntmps11
  go_wp2_with fail
  refine (diskNew w).mono ?_
  rintro e w1 ⟨g, v, rfl, hd1, hb1⟩
  have HD1 := Aside0.mk hd1
  have HB1 := Aside0.mk hb1
  have hgl := hd1.low
  have HGL := Aside0.mk hgl
  clear hd1 hb1 hgl
  go_wp2_with fail
  refine (diskAppend _ _ g v [] 0 (HD1.out.below ((Below.refl _ _).alloc (Nat.le_refl _) _)) (some ⟨w1.heap.size, 0, none⟩) 3 [1, 2, 3] (lit_nums w1 .u8 _ _ _ rfl (by decide)) (by decide)).mono ?_
  rintro e w2 ⟨v2, rfl, hd2, hc2, _⟩
  have HD2 := Aside0.mk hd2
  have HB2 := Aside0.mk (two_ch _ _ _ _ (HB1.out.alloc HB1.out.size _) hc2 (fun k hk => Nat.le_trans HGL.out (HD1.out.foot k hk)))
  clear hd2 hc2
  go_wp2_with fail
  refine (diskSync w2 _ g v2 _ _ HD2.out).mono ?_
  rintro e w3 ⟨rfl, hd3, hc3⟩
  have HD3 := Aside0.mk hd3
  have HB3 := Aside0.mk (two_ch _ _ _ _ HB2.out hc3 (fun k hk => Nat.le_trans HGL.out (HD2.out.foot k hk)))
  clear hd3 hc3
  go_wp2_with fail
  refine (diskAppend _ _ g v2 _ _ (HD3.out.below ((Below.refl _ _).alloc (Nat.le_refl _) _)) (some ⟨w3.heap.size, 0, none⟩) 2 [4, 5] (lit_nums w3 .u8 _ _ _ rfl (by decide)) (by decide)).mono ?_
  rintro e w4 ⟨v4, rfl, hd4, hc4, _⟩
  obtain ⟨A4, c4, rfl, _, _⟩ := hd4.own.reads
  have HD4 := Aside0.mk hd4
  have HB4 := Aside0.mk (two_ch _ _ _ _ (HB3.out.alloc HB3.out.size _) hc4 (fun k hk => Nat.le_trans HGL.out (HD3.out.foot k hk)))
  clear hd4 hc4
  go_wp2_with fail
  refine (diskCrash w4 _ g A4 _ c4 _ _ HD4.out 1 4 HCR.out).mono ?_
  rintro e w5 ⟨rfl, hd5, hc5⟩
  have HD5 := Aside0.mk hd5
  have HB5 := Aside0.mk (two_ch _ _ _ _ HB4.out hc5 (fun k hk => Nat.le_trans HGL.out (HD4.out.foot k hk)))
  clear hd5 hc5
  go_wp2_with fail
  refine (diskBytes w5 _ g _ _ _ HD5.out).mono ?_
  rintro e w6 ⟨u, rfl, hu6, hb6⟩
  obtain ⟨A6, c6, rfl, _, hr6⟩ := hu6.reads
  have HR6 := Aside0.mk hr6
  have HB6 := Aside0.mk (two_andd _ _ _ HB5.out hb6)
  have HD6 := Aside0.mk (HD5.out.below hb6)
  clear hu6 hb6 hr6
  go_wp2_with fail
  refine (sameBytes _ _ _ _ _ [1, 2, 3, 4] _ (Kd.C_below HR6.out ((Below.refl _ _).alloc (Nat.le_refl _) _)) (lit_nums w6 .u8 [1, 2, 3, 4] _ _ rfl (by decide)) true (by decide)).mono ?_
  rintro e w7 ⟨rfl, hb7⟩
  have HB7 := Aside0.mk (two_andd _ _ _ (HB6.out.alloc HB6.out.size _) hb7)
  have HD7 := Aside0.mk ((HD6.out.below ((Below.refl _ _).alloc (Nat.le_refl _) _)).below hb7)
  clear hb7
  go_wp2_with fail
  refine (diskUnsynced w7 _ g _ _ _ HD7.out).mono ?_
  rintro e w8 ⟨rfl, hb8⟩
  have HB8 := Aside0.mk (two_andd _ _ _ HB7.out hb8.below)
  have HD8 := Aside0.mk (HD7.out.below hb8.below)
  clear hb8
  go_wp2_with fail
  refine (diskSynced w8 _ g _ _ _ HD8.out).mono ?_
  rintro e w9 ⟨rfl, rfl⟩
  go_wp2_with fail
  go_ret
  exact ⟨rfl, HB8.out⟩

theorem nAppend (w : World) (A : Option Addr) (n c : Nat) : Calls Try.prog 14 #[.pointer none, .slice A n c] w fun e w' => e = .returned (.tuple #[]) ∧ w' = w := by
  go_enter Try.func14, Try.ntmps14
  go_wp2_with fail
  go_end0
  exact ⟨rfl, rfl⟩
theorem nSync (w : World) : Calls Try.prog 18 #[.pointer none] w fun e w' => e = .returned (.tuple #[]) ∧ w' = w := by
  go_enter Try.func18, Try.ntmps18
  go_wp2_with fail
  go_end0
  exact ⟨rfl, rfl⟩
theorem nCrash (w : World) (m : Int) : Calls Try.prog 19 #[.pointer none, .int .i64 m] w fun e w' => e = .returned (.tuple #[]) ∧ w' = w := by
  go_enter Try.func19, Try.ntmps19
  go_wp2_with fail
  go_end0
  exact ⟨rfl, rfl⟩
theorem nCut (w : World) (m : Int) : Calls Try.prog 21 #[.pointer none, .int .i64 m] w fun e w' => e = .returned (.bool false) ∧ w' = w := by
  go_enter Try.func21, Try.ntmps21
  go_wp2_with fail
  go_ret
  exact ⟨rfl, rfl⟩
theorem nBytes (w : World) : Calls Try.prog 23 #[.pointer none] w fun e w' => e = .returned (.slice none 0 0) ∧ w' = w := by
  go_enter Try.func23, Try.ntmps23
  go_wp2_with fail
  go_ret
  exact ⟨rfl, rfl⟩
theorem nSynced (w : World) : Calls Try.prog 25 #[.pointer none] w fun e w' => e = .returned (.int .i64 0) ∧ w' = w := by
  go_enter Try.func25, Try.ntmps25
  go_wp2_with fail
  go_ret
  exact ⟨rfl, rfl⟩
theorem nUnsynced (w : World) : Calls Try.prog 26 #[.pointer none] w fun e w' => e = .returned (.int .i64 0) ∧ w' = w := by
  go_enter Try.func26, Try.ntmps26
  go_wp2_with fail
  go_ret
  exact ⟨rfl, rfl⟩

set_option maxHeartbeats 1600000 in
theorem diskNone_walk (W : World) (n : Int) (wn : (Lit.int .i64 n).wf = true) :
    Calls Try.prog 5 #[.int .i64 n] W fun e w' => e = .returned (.bool true) ∧ Below W.heap.size W w' := by
  clear wn
  go_enter Try.func5, Try.ntmps5
  go_wp2_with fail
  refine (nAppend _ _ _ _).mono ?_
  rintro e w1 ⟨rfl, rfl⟩
  go_wp2_with fail
  refine (nSync _).mono ?_
  rintro e w1 ⟨rfl, rfl⟩
  go_wp2_with fail
  refine (nCrash _ _).mono ?_
  rintro e w1 ⟨rfl, rfl⟩
  go_wp2_with fail
  refine (nCut _ _).mono ?_
  rintro e w1 ⟨rfl, rfl⟩
  go_wp2_with fail
  refine (nBytes _).mono ?_
  rintro e w1 ⟨rfl, rfl⟩
  go_wp2_with fail
  refine (nSynced _).mono ?_
  rintro e w1 ⟨rfl, rfl⟩
  go_wp2_with fail
  refine (nUnsynced _).mono ?_
  rintro e w1 ⟨rfl, rfl⟩
  go_wp2_with fail
  refine (awake14 _).mono ?_
  rintro e w2 ⟨rfl, hb2⟩
  have HB2 := Aside0.mk (below_then ((Below.refl W.heap.size W).alloc (Nat.le_refl _) _) ((Below.refl W.heap.size W).alloc (Nat.le_refl _) _).size hb2)
  clear hb2
  go_wp2_with fail
  go_ret
  exact ⟨rfl, HB2.out⟩
end Go.Proofs.Ytnnjfideeeampaa.K
