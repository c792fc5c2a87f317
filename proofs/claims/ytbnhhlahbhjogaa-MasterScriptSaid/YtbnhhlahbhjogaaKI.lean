/- Lists of numbers held against one another; written over. -/
import Derived.Test.YtbnhhlahbhjogaaT
import Derived.Deep.LoopGhost
import Derived.Deep.QuietTactic
import Derived.BigQuiet
set_option linter.unusedVariables false
set_option linter.unusedSimpArgs false
namespace Go.Proofs.Ytbnhhlahbhjogaa.K
open Go.RowKit Go.Proofs.YtbnhhlahbhjogaaW.PrintWords Go.Proofs.YtbnhhlahbhjogaaW.PrintLast Go.Proofs.YtbnhhlahbhjogaaW.PrintMore Go.Proofs.Ytbnhhlahbhjogaa.U Go.Proofs.Ytbnhhlahbhjogaa.T

theorem info_int : (Try.prog.info? 3).map (fun i => (i.zero, i.size, i.bytes)) = some (some (.int .i64 0), 1, 8) := by kernel_rfl

set_option maxHeartbeats 800000 in
theorem sameInts (A0 : Option Addr) (c0 : Nat) (l0 : List Int) (A1 : Option Addr) (c1 : Nat) (l1 : List Int) (w : World) (hr0 : Kd.C (Kd.int .i64) w A0 l0.length l0) (hr1 : Kd.C (Kd.int .i64) w A1 l1.length l1) (r : Bool) (hr : r = decide (l0 = l1)) :
    Calls Try.prog 30 #[.slice A0 l0.length c0, .slice A1 l1.length c1] w fun e w' => e = .returned (.bool r) ∧ Below w.heap.size w w' := by
  have HR := Aside0.mk hr
  have HR0 := Aside0.mk hr0
  have HR1 := Aside0.mk hr1
  have hm0 := Kd.C_max hr0
  clear hr hr0 hr1
  by_cases hl : l0.length = l1.length
  · have HL := Aside0.mk hl
    have hb0 : (l0.length == l1.length) = true := by simpa using hl
    have hb1 : ((l0.length : Int) == (l1.length : Int)) = true := by simp [hl]
    have hb2 : ((l0.length : Int) != (l1.length : Int)) = false := by simp [hl]
    clear hl
    go_enter Try.func30, Try.ntmps30
    go_wp2_with fail
    go_loopg [5] l0.length (fun kq v5 w' => ∃ k : Nat, k + kq = l0.length ∧ v5 = .int .i64 k ∧ Aside0 (l0.take k = l1.take k) ∧ Drawn0 w w')
    case atStart => exact ⟨0, by omega, rfl, ⟨by simp⟩, Drawn0.refl _⟩
    case round =>
      obtain ⟨k, hk, rfl, HT, ⟨m1, rfl⟩⟩ := hrel
      clear hb0 hb1 hb2
      by_cases hlt : k < l0.length
      · have hlt1 : (k : Int) < (l1.length : Int) := by have := HL.out; omega
        have hlt0 : (k : Int) < (l0.length : Int) := by omega
        obtain ⟨ad0, e0, hx0⟩ := Kd.at_int HR0.out (k : Int) (by omega) hlt0
        obtain ⟨ad1, e1, hx1⟩ := Kd.at_int HR1.out (k : Int) (by omega) hlt1
        cases e0
        cases e1
        rw [Int.toNat_natCast] at hx0 hx1
        obtain ⟨a, ha⟩ : ∃ a, a = rd l0 k := ⟨_, rfl⟩
        obtain ⟨b, hb⟩ : ∃ b, b = rd l1 k := ⟨_, rfl⟩
        rw [← ha] at hx0
        rw [← hb] at hx1
        have HA := Aside0.mk ha
        have HB := Aside0.mk hb
        clear ha hb
        have g0 : l0.take (k + 1) = l0.take k ++ [a] := by
          rw [List.take_succ_eq_append_getElem hlt, HA.out]
          simp [rd, List.getD_eq_getElem?_getD, hlt]
        have hk1 : k < l1.length := by omega
        have g1 : l1.take (k + 1) = l1.take k ++ [b] := by
          rw [List.take_succ_eq_append_getElem hk1, HB.out]
          simp [rd, List.getD_eq_getElem?_getD, hk1]
        have G0 := Aside0.mk g0
        have G1 := Aside0.mk g1
        clear g0 g1
        by_cases hab : a = b
        · subst hab
          have hne : (a != a) = false := by simp
          go_wp2_with fail
          go_quiet (fail)
          go_wp2_with fail
          go_roundg (l0.length - (k + 1))
          case measure => omega
          case rel => exact ⟨k + 1, by omega, by go_num, ⟨by rw [G0.out, G1.out, HT.out]⟩, by repeat (first | exact Drawn0.refl _ | apply Drawn0.step)⟩
        · have hne : (a != b) = true := by simpa using hab
          have hrf : r = false := by
            rw [HR.out]
            refine decide_eq_false fun h => hab ?_
            have h2 := G0.out
            rw [h, G1.out, ← h, HT.out] at h2
            have h3 := List.append_cancel_left h2
            simpa using h3.symm
          have HRF := Aside0.mk hrf
          clear hab hrf
          go_wp2_with fail
          go_quiet (fail)
          go_wp2_with fail
          go_ret
          exact ⟨by rw [HRF.out]; rfl, (Drawn0.step (Drawn0.step (Drawn0.refl w) m1) _).below⟩
      · go_wp2_with fail
        go_ret
        refine ⟨?_, (Drawn0.step (Drawn0.refl w) m1).below⟩
        rw [HR.out]
        have h2 := HT.out
        rw [List.take_of_length_le (by omega), List.take_of_length_le (by have := HL.out; omega)] at h2
        rw [decide_eq_true h2]
        rfl
  · have hb0 : (l0.length == l1.length) = false := by simpa using hl
    have hb1 : ((l0.length : Int) == (l1.length : Int)) = false := by simpa using fun h : (l0.length : Int) = l1.length => hl (by omega)
    have hb2 : ((l0.length : Int) != (l1.length : Int)) = true := by simpa using fun h : (l0.length : Int) = l1.length => hl (by omega)
    have hrf : r = false := by
      rw [HR.out]
      exact decide_eq_false fun h => hl (by rw [h])
    have HRF := Aside0.mk hrf
    clear hl hrf
    go_enter Try.func30, Try.ntmps30
    go_wp2_with fail
    go_ret
    exact ⟨by rw [HRF.out]; rfl, Below.refl _ _⟩

set_option maxHeartbeats 800000 in
theorem overInts (v : Value) (l0 : List Int) (base : Nat) (w : World) (hO : Own (Kd.int .i64) 3 w base v l0) (hb : base ≤ w.heap.size) (hl : l0.length ≤ 100000000) :
    Calls Try.prog 32 #[v] w fun e w' => e = .returned (.tuple #[]) ∧ w.grownBy w' v.ownBlock := by
  obtain ⟨A, c, rfl, hc, hrd⟩ := hO.reads
  have HO := Aside0.mk hO
  clear hrd
  rcases Nat.eq_zero_or_pos l0.length with h0 | h0
  · obtain rfl := List.eq_nil_of_length_eq_zero h0
    have hb' : base ≤ w.heap.size := hb
    clear hO hl h0
    go_enter Try.func32, Try.ntmps32
    go_wp2_with fail
    go_loopg [2] 1 (fun kq v2 w' => v2 = .int .i64 0 ∧ w' = w)
    case atStart => exact ⟨rfl, rfl⟩
    case round =>
      obtain ⟨rfl, rfl⟩ := hrel
      go_wp2_with (at_builtin; refine wpList_append_runs rfl _ _ _ _ rfl _ _ rfl rfl (append_one_runs Try.prog (flat_int .i64) 24 _ _ 8 Try.underlying24 info_int rfl (by decide) (x := (-999)) (cs := [.int .i64 (-999)]) HO.out rfl hb' (by simp) (by simp) 3 _ rfl _ rfl) ?_; rintro v4 w4 ⟨hv4, hg4⟩; have HG4 := Aside0.mk hg4; clear hv4 hg4)
      go_end0
      exact ⟨rfl, (World.grownBy_alloc _ _ _).trans HG4.out⟩
  · obtain ⟨g, cap, he, hbg, hlt, _⟩ := Kd.R_form hO h0
    simp only [Value.slice.injEq] at he
    obtain ⟨rfl, _, rfl⟩ := he
    have hb' : base ≤ w.heap.size := hb
    clear hO
    go_enter Try.func32, Try.ntmps32
    go_wp2_with fail
    go_loopg [2] l0.length (fun kq v2 w' => ∃ (k : Nat) (ls : List Int), k + kq = l0.length ∧ v2 = .int .i64 k ∧ Aside0 (ls.length = l0.length) ∧ Aside0 (Own (Kd.int .i64) 3 w' base (.slice (some ⟨g, 0, none⟩) l0.length c) ls) ∧ Aside0 (w.grownBy w' (some g)))
    case atStart => exact ⟨0, l0, by omega, rfl, ⟨rfl⟩, HO, ⟨World.grownBy.refl _ _⟩⟩
    case round =>
      obtain ⟨k, ls, hk, rfl, HLS, HO1, HG⟩ := hrel
      by_cases hlt : k < l0.length
      · obtain ⟨hcell, hfz⟩ := Kd.R_celln (0 : Int) HO1.out (k : Int) (by omega) (by omega)
        obtain ⟨hput, hgp⟩ := Kd.R_putg HO1.out (k : Int) ((-999) : Int)
        rw [Int.toNat_natCast] at hcell hfz hput hgp
        have HP := Aside0.mk hput
        have HGP := Aside0.mk hgp
        clear hput hgp
        go_wp2_with fail
        go_roundg (l0.length - (k + 1))
        case measure => omega
        case rel => exact ⟨k + 1, ls.set k (-999), by omega, by go_num, ⟨by rw [List.length_set]; exact HLS.out⟩, ⟨HP.out⟩, ⟨HG.out.trans HGP.out⟩⟩
      · have hsz : base ≤ wr.heap.size := Nat.le_trans hb' HG.out.size
        have hl2 := HLS.out
        have HL2 := Aside0.mk hl2
        clear hl2
        go_wp2_with (at_builtin; refine wpList_append_runs rfl _ _ _ _ rfl _ _ rfl rfl (append_one_runs Try.prog (flat_int .i64) 24 _ _ 8 Try.underlying24 info_int rfl (by decide) (x := (-999)) (cs := [.int .i64 (-999)]) HO1.out rfl hsz (by rw [HL2.out]; omega) (by rw [HL2.out]; omega) 3 _ rfl _ rfl) ?_; rintro v4 w4 ⟨hv4, hg4⟩; have HG4 := Aside0.mk hg4; clear hv4 hg4)
        go_end0
        exact ⟨rfl, HG.out.trans ((World.grownBy_alloc _ _ _).trans HG4.out)⟩

end Go.Proofs.Ytbnhhlahbhjogaa.K
