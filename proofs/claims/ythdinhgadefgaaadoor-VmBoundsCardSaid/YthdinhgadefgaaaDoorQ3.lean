/- Programs, keys and values that are too great to go through. -/
import Derived.Test.YthdinhgadefgaaaDoorM12
import Derived.Test.YthdinhgadefgaaaDoorKG
set_option linter.unusedVariables false
set_option linter.unusedSimpArgs false
namespace Go.Proofs.YthdinhgadefgaaaDoor.K
open Go.RowKit Go.Proofs.YthdinhgadefgaaaDoorW.PrintWords Go.Proofs.YthdinhgadefgaaaDoorW.PrintLast Go.Proofs.YthdinhgadefgaaaDoorW.PrintMore Go.Proofs.YthdinhgadefgaaaDoor.U Go.Proofs.YthdinhgadefgaaaDoor.T Go.Proofs.YthdinhgadefgaaaDoor.V

set_option maxHeartbeats 800000 in
theorem greatCode (A0 : Option Addr) (c0 : Nat) (l0 : List InsD) (w : World) (hr0 : Kd.C kIns w A0 l0.length l0) :
    Calls Tryd.prog 38 #[.slice A0 l0.length c0] w fun e w' => RetBool (fun r => r = false → l0.length ≤ 60 ∧ ∀ x ∈ l0, x.s.size ≤ 100) e ∧ Below w.heap.size w w' := by
  have hm0 := Kd.C_max hr0
  have HR0 := Aside0.mk hr0
  clear hr0
  go_enter Tryd.func38, Tryd.ntmps38
  go_wp2_with fail
  go_loopg [3] l0.length (fun kq v w' => ∃ k : Nat, k + kq = l0.length ∧ v = .int .i64 k ∧ Aside0 (∀ j (hj : j < l0.length), j < k → l0[j].s.size ≤ 100) ∧ Aside0 (Below w.heap.size w w'))
  case atStart => exact ⟨0, by omega, rfl, ⟨fun j hj h => by omega⟩, ⟨Below.refl _ _⟩⟩
  case round =>
    obtain ⟨k, hk, rfl, HA, HB⟩ := hrel
    by_cases h60 : (l0.length : Int) ≤ 60
    · by_cases hlt : k < l0.length
      · obtain ⟨ad, rfl, hx0, hx1, hx2⟩ := at_ins (Kd.C_below HR0.out HB.out) k hlt
        obtain ⟨x, hx⟩ : ∃ x, x = l0[k] := ⟨_, rfl⟩
        rw [← hx] at hx0 hx1 hx2
        have HX := Aside0.mk hx
        obtain ⟨op, a, s⟩ := x
        clear hx
        by_cases h1 : (100 : Int) < s.size
        · go_wp2_with fail
          go_ret
          exact ⟨RetBool.mk true (by simp), HB.out⟩
        · go_wp2_with fail
          go_roundg (l0.length - (k + 1))
          case measure => omega
          case rel => exact ⟨k + 1, by omega, by go_num, ⟨fun j hj h => by
            rcases Nat.lt_or_ge j k with h3 | h3
            · exact HA.out j hj h3
            · obtain rfl : j = k := by omega
              rw [← HX.out]
              show s.size ≤ 100
              omega⟩, HB⟩
      · obtain rfl : k = l0.length := by omega
        go_wp2_with fail
        go_ret
        refine ⟨RetBool.mk _ (fun _ => ⟨by omega, fun x hx => ?_⟩), HB.out⟩
        obtain ⟨j, hj, rfl⟩ := List.getElem_of_mem hx
        exact HA.out j hj hj
    · by_cases hlt : k < l0.length
      · go_wp2_with fail
        go_ret
        exact ⟨RetBool.mk true (by simp), HB.out⟩
      · go_wp2_with fail
        go_ret
        exact ⟨RetBool.mk true (by simp), HB.out⟩
set_option maxHeartbeats 800000 in
theorem great6 (pA : Option Addr) (pc : Nat) (p : List InsD) (key : ByteArray) (vA : Option Addr) (vc : Nat) (vals : List ByteArray) (w : World) (hp : Kd.C kIns w pA p.length p) (hv : Kd.C Kd.string w vA vals.length vals) (hg : ∀ s ∈ vals, s.size ≤ 9223372036854775807) :
    Calls Tryd.prog 28 #[.slice pA p.length pc, .string key, .slice vA vals.length vc] w fun e w' => RetBool (fun r => r = false → p.length ≤ 60 ∧ key.size ≤ 100 ∧ vals.length ≤ 60 ∧ ∀ s ∈ vals, s.size ≤ 100) e ∧ Below w.heap.size w w' := by
  have HC := Aside0.mk (greatCode pA pc p w hp)
  have HV := Aside0.mk hv
  have HG := Aside0.mk hg
  clear hp hv hg
  by_cases hk : (100 : Int) < key.size
  · go_enter Tryd.func28, Tryd.ntmps28
    go_wp2_with fail
    refine HC.out.mono ?_
    rintro e w1 ⟨⟨r, rfl, hr⟩, hb1⟩
    have HB1 := Aside0.mk hb1
    clear hb1 hr
    cases r
    all_goals
      go_wp2_with fail
      go_ret
      exact ⟨RetBool.mk true (by simp), HB1.out⟩
  · have hk2 : key.size ≤ 100 := by omega
    go_enter Tryd.func28, Tryd.ntmps28
    go_wp2_with fail
    refine HC.out.mono ?_
    rintro e w1 ⟨⟨r, rfl, hr⟩, hb1⟩
    have HB1 := Aside0.mk hb1
    have HR := Aside0.mk hr
    clear hb1 hr
    cases r
    · go_wp2_with fail
      refine (greatTexts vA vc vals 60 w1 (Kd.C_below HV.out HB1.out) HG.out).mono ?_
      rintro e w2 ⟨⟨r, rfl, hr⟩, hb2⟩
      have HB2 := Aside0.mk (two_belowM HB1.out hb2)
      have HR2 := Aside0.mk hr
      clear hb2 hr
      go_wp2_with fail
      go_ret
      refine ⟨RetBool.mk _ (fun h => ?_), HB2.out⟩
      have hr : r = false := by simpa [hk] using h
      exact ⟨(HR.out (by trivial)).1, hk2, by have := (HR2.out hr).1; omega, (HR2.out hr).2⟩
    · go_wp2_with fail
      go_ret
      exact ⟨RetBool.mk true (by simp), HB1.out⟩
end Go.Proofs.YthdinhgadefgaaaDoor.K
