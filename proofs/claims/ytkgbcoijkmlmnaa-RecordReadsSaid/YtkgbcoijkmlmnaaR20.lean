/- The statement RecordReads: what the walk of its code comes to. -/
import Derived.Test.YtkgbcoijkmlmnaaR13
import Derived.Test.YtkgbcoijkmlmnaaR18
import Derived.Test.YtkgbcoijkmlmnaaR19
set_option linter.unusedVariables false
set_option linter.unusedSimpArgs false
set_option maxRecDepth 100000
namespace Go.Proofs.Ytkgbcoijkmlmnaa.K
open Go.RowKit Go.Proofs.YtkgbcoijkmlmnaaW.PrintWords Go.Proofs.YtkgbcoijkmlmnaaW.PrintLast Go.Proofs.YtkgbcoijkmlmnaaW.PrintMore Go.Proofs.Ytkgbcoijkmlmnaa.U Go.Proofs.Ytkgbcoijkmlmnaa.T

theorem wf_u8r {x : Int} (h : (Lit.int .u8 x).wf = true) : 0 ≤ x ∧ x < 256 := by
  simp [Lit.wf, IntKind.min, IntKind.max, IntKind.wrap, IntKind.bits, IntKind.signed] at h
  omega
set_option maxHeartbeats 3200000 in
theorem recordReads_walk (W : World) (A0 : Option Addr) (c0 : Nat) (l0 : List Int) (hr0 : Kd.C (Kd.int .u8) W A0 l0.length l0) (hc0 : l0.length ≤ c0) (hg0 : ∀ x ∈ l0, (Lit.int .u8 x).wf = true) :
    Calls Try.prog 6 #[.slice A0 l0.length c0] W fun e w' => e = .returned (.bool true) ∧ Below W.heap.size W w' := by
  have HR0 := Aside0.mk hr0
  have HOK : Aside0 (OkB l0) := ⟨fun x hx => wf_u8r (hg0 x hx)⟩
  clear hr0 hg0
  by_cases hbig : 3000 < l0.length
  case pos =>
    have hb' : (3000 : Int) < l0.length := by omega
    go_enter Try.func6, Try.ntmps6
    go_wp2_with fail
    refine (awake15 _).mono ?_
    rintro e w6 ⟨rfl, hb6⟩
    have HB6 := Aside0.mk hb6
    clear hb6
    go_wp2_with fail
    go_ret
    exact ⟨rfl, HB6.out⟩
  have hb' : ¬ (3000 : Int) < l0.length := by omega
  go_enter Try.func6, Try.ntmps6
  go_wp2_with fail
  refine (lendBytes A0 c0 l0 W HR0.out (by omega)).mono ?_
  rintro e w1 ⟨g, rfl, hL1, hb1⟩
  have HL1 := Aside0.mk hL1
  have HB1 := Aside0.mk hb1
  have hg1 : g < w1.heap.size := hL1.lt
  clear hL1 hb1
  have HREAD := Aside0.mk (readM (some ⟨g, 0, none⟩) (l0.length + 3) l0 w1 (HL1.out.reads (by omega)) (by omega) (by omega))
  go_wp2_with fail
  refine HREAD.out.mono ?_
  rintro e w2 ⟨v2, n, zs, ow, rfl, hP, hF, _, hMay, hzl, hb2⟩
  have HP := Aside0.mk hP
  have HB2 := Aside0.mk hb2
  have HB02 := Aside0.mk (two_andj _ _ _ HB1.out hb2)
  obtain ⟨Aa, ca, rfl, _⟩ := hP.reads
  clear hP hb2
  have HREF := Aside0.mk (refRead A0 c0 l0 w2 (Kd.C_below HR0.out HB02.out) hc0 (by omega) HOK.out)
  go_wp2_with fail
  refine HREF.out.mono ?_
  rintro e w3 ⟨v3, n3, zs3, ow3, rfl, hP3, hF3, hb3⟩
  obtain ⟨hzz, hnn⟩ := hF.out.unique hF3.out
  subst hnn
  obtain ⟨Ab, cb, rfl, hC3⟩ := hP3.reads
  obtain ⟨Aa', ca', hee, hC2⟩ := (HP.out.below hb3).reads
  have hAA : Aa = Aa' ∧ ca = ca' := by injection hee with h1 h2 h3; exact ⟨h1, h3⟩
  obtain ⟨rfl, rfl⟩ := hAA
  have HP3 := Aside0.mk (HP.out.below hb3)
  have HL3 := Aside0.mk ((HL1.out.below HB2.out).below hb3)
  have HB3 := Aside0.mk (two_andj _ _ _ HB02.out hb3)
  have HB13 := Aside0.mk (two_andj _ _ _ HB2.out hb3)
  have hl1 : zs3.length = zs.length := by have h := congrArg List.length hzz; rw [List.length_map, List.length_map] at h; exact h.symm
  have HSAME : Aside0 (Calls Try.prog 29 #[.slice Aa zs.length ca, .slice Ab zs3.length cb] w3 fun e w' => e = .returned (.bool true) ∧ Below w3.heap.size w3 w') := ⟨by
    have h := sameRecords Aa ca (zs.map (·.x)) Ab cb (zs3.map (·.x)) w3 (by rw [List.length_map]; exact hC2) (by rw [List.length_map]; exact hC3) (by rw [List.length_map]; have := hzl.out; omega) true (by simp [hzz])
    rw [List.length_map, List.length_map] at h
    exact h⟩
  have hnq : (((n : Nat) : Int) == ((n : Nat) : Int)) = true := by simp
  have HMAY := Aside0.mk hMay.out
  have HZL := Aside0.mk hzl.out
  clear hzz hP3 hF hF3 hb3 hC3 hC2 hee hl1 hMay hzl HP HB2 HB02
  go_wp2_with fail
  refine HSAME.out.mono ?_
  rintro e w4 ⟨rfl, hb4⟩
  have HP4 := Aside0.mk (HP3.out.below hb4)
  have HL4 := Aside0.mk (HL3.out.below hb4)
  have HB4 := Aside0.mk (two_andj _ _ _ HB3.out hb4)
  have HB14 := Aside0.mk (two_andj _ _ _ HB13.out hb4)
  clear hb4 HP3 HL3 HB3 HB13
  go_wp2_with fail
  refine (keptBytes g A0 c0 l0 l0 w4 _ HL4.out (Kd.C_below HR0.out HB4.out) (by omega) true (by simp)).mono ?_
  rintro e w5 ⟨rfl, hb5⟩
  have HP5 := Aside0.mk (HP4.out.below hb5)
  have HL5 := Aside0.mk (HL4.out.below hb5)
  have HB5 := Aside0.mk (two_andj _ _ _ HB4.out hb5)
  have HB15 := Aside0.mk (two_andj _ _ _ HB14.out hb5)
  clear hb5 HP4 HL4 HB4 HB14
  go_wp2_with fail
  refine (overRecords _ zs ow w1.heap.size w5 HP5.out HB15.out.size (by have := HZL.out; omega) (fun z hz => by have h := mayR_small (HMAY.out z hz); omega)).mono ?_
  rintro e w6 ⟨rfl, hc6⟩
  have HL6 : Aside0 (LentBytes w6 W.heap.size g l0) := ⟨HL5.out.1, hc6.blk HL5.out.2 (fun e => by have e : w1.heap.size ≤ g := e; omega)⟩
  have HB6 := Aside0.mk (Below.ch HB5.out hc6 HB5.out.size (fun k hk => Nat.le_trans HB1.out.size hk))
  clear hc6 HL5 HB5 HB15 HP5
  go_wp2_with fail
  refine (keptBytes g A0 c0 l0 l0 w6 _ HL6.out (Kd.C_below HR0.out HB6.out) (by omega) true (by simp)).mono ?_
  rintro e w7 ⟨rfl, hb7⟩
  have HB7 := Aside0.mk (two_andj _ _ _ HB6.out hb7)
  clear hb7
  go_wp2_with fail
  refine (awake15 _).mono ?_
  rintro e w8 ⟨rfl, hb8⟩
  have HB8 := Aside0.mk (two_andj _ _ _ HB7.out hb8)
  clear hb8
  go_wp2_with fail
  go_ret
  exact ⟨rfl, HB8.out⟩
end Go.Proofs.Ytkgbcoijkmlmnaa.K
