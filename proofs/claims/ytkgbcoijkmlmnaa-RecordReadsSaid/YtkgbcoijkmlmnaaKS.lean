/- Lists of bytes held against one another; rows of the call's own; copy. -/
import Derived.Test.YtkgbcoijkmlmnaaT
import Derived.Deep.LoopGhost
import Derived.Deep.QuietTactic
import Derived.BigQuiet
set_option linter.unusedVariables false
set_option linter.unusedSimpArgs false
namespace Go.Proofs.Ytkgbcoijkmlmnaa.K
open Go.RowKit Go.Proofs.YtkgbcoijkmlmnaaW.PrintWords Go.Proofs.YtkgbcoijkmlmnaaW.PrintLast Go.Proofs.YtkgbcoijkmlmnaaW.PrintMore Go.Proofs.Ytkgbcoijkmlmnaa.U Go.Proofs.Ytkgbcoijkmlmnaa.T

theorem info_u8 : (Try.prog.info? 5).map (fun i => (i.zero, i.size, i.bytes)) = some (some (.int .u8 0), 1, 1) := by kernel_rfl

set_option maxHeartbeats 800000 in
theorem sameBytes (A0 : Option Addr) (c0 : Nat) (l0 : List Int) (A1 : Option Addr) (c1 : Nat) (l1 : List Int) (w : World) (hr0 : Kd.C (Kd.int .u8) w A0 l0.length l0) (hr1 : Kd.C (Kd.int .u8) w A1 l1.length l1) (r : Bool) (hr : r = decide (l0 = l1)) :
    Calls Try.prog 35 #[.slice A0 l0.length c0, .slice A1 l1.length c1] w fun e w' => e = .returned (.bool r) ∧ Below w.heap.size w w' := by
  have HR := Aside0.mk hr
  have HR0 := Aside0.mk hr0
  have HR1 := Aside0.mk hr1
  have hm0 := Kd.C_max hr0
  clear hr hr0 hr1
  by_cases hl : l0.length = l1.length
  · have HL := Aside0.mk hl
    have hb0 : (l0.length == l1.length) = true := by simpa using hl
    have hb1 : ((l0.length : Int) == (l1.length : Int)) = true := by simp [hl]
    have hb2 : ((l0.length : Int) != (l1.length : Int)) = false := by simp [hl]
    clear hl
    go_enter Try.func35, Try.ntmps35
    go_wp2_with fail
    go_loopg [5] l0.length (fun kq v5 w' => ∃ k : Nat, k + kq = l0.length ∧ v5 = .int .i64 k ∧ Aside0 (l0.take k = l1.take k) ∧ Drawn0 w w')
    case atStart => exact ⟨0, by omega, rfl, ⟨by simp⟩, Drawn0.refl _⟩
    case round =>
      obtain ⟨k, hk, rfl, HT, ⟨m1, rfl⟩⟩ := hrel
      clear hb0 hb1 hb2
      by_cases hlt : k < l0.length
      · have hlt1 : (k : Int) < (l1.length : Int) := by have := HL.out; omega
        have hlt0 : (k : Int) < (l0.length : Int) := by omega
        obtain ⟨ad0, e0, hx0⟩ := Kd.at_int HR0.out (k : Int) (by omega) hlt0
        obtain ⟨ad1, e1, hx1⟩ := Kd.at_int HR1.out (k : Int) (by omega) hlt1
        cases e0
        cases e1
        rw [Int.toNat_natCast] at hx0 hx1
        obtain ⟨a, ha⟩ : ∃ a, a = rd l0 k := ⟨_, rfl⟩
        obtain ⟨b, hb⟩ : ∃ b, b = rd l1 k := ⟨_, rfl⟩
        rw [← ha] at hx0
        rw [← hb] at hx1
        have HA := Aside0.mk ha
        have HB := Aside0.mk hb
        clear ha hb
        have g0 : l0.take (k + 1) = l0.take k ++ [a] := by
          rw [List.take_succ_eq_append_getElem hlt, HA.out]
          simp [rd, List.getD_eq_getElem?_getD, hlt]
        have hk1 : k < l1.length := by omega
        have g1 : l1.take (k + 1) = l1.take k ++ [b] := by
          rw [List.take_succ_eq_append_getElem hk1, HB.out]
          simp [rd, List.getD_eq_getElem?_getD, hk1]
        have G0 := Aside0.mk g0
        have G1 := Aside0.mk g1
        clear g0 g1
        by_cases hab : a = b
        · subst hab
          have hne : (a != a) = false := by simp
          go_wp2_with fail
          go_quiet (fail)
          go_wp2_with fail
          go_roundg (l0.length - (k + 1))
          case measure => omega
          case rel => exact ⟨k + 1, by omega, by go_num, ⟨by rw [G0.out, G1.out, HT.out]⟩, by repeat (first | exact Drawn0.refl _ | apply Drawn0.step)⟩
        · have hne : (a != b) = true := by simpa using hab
          have hrf : r = false := by
            rw [HR.out]
            refine decide_eq_false fun h => hab ?_
            have h2 := G0.out
            rw [h, G1.out, ← h, HT.out] at h2
            have h3 := List.append_cancel_left h2
            simpa using h3.symm
          have HRF := Aside0.mk hrf
          clear hab hrf
          go_wp2_with fail
          go_quiet (fail)
          go_wp2_with fail
          go_ret
          exact ⟨by rw [HRF.out]; rfl, (Drawn0.step (Drawn0.step (Drawn0.refl w) m1) _).below⟩
      · go_wp2_with fail
        go_ret
        refine ⟨?_, (Drawn0.step (Drawn0.refl w) m1).below⟩
        rw [HR.out]
        have h2 := HT.out
        rw [List.take_of_length_le (by omega), List.take_of_length_le (by have := HL.out; omega)] at h2
        rw [decide_eq_true h2]
        rfl
  · have hb0 : (l0.length == l1.length) = false := by simpa using hl
    have hb1 : ((l0.length : Int) == (l1.length : Int)) = false := by simpa using fun h : (l0.length : Int) = l1.length => hl (by omega)
    have hb2 : ((l0.length : Int) != (l1.length : Int)) = true := by simpa using fun h : (l0.length : Int) = l1.length => hl (by omega)
    have hrf : r = false := by
      rw [HR.out]
      exact decide_eq_false fun h => hl (by rw [h])
    have HRF := Aside0.mk hrf
    clear hl hrf
    go_enter Try.func35, Try.ntmps35
    go_wp2_with fail
    go_ret
    exact ⟨by rw [HRF.out]; rfl, Below.refl _ _⟩

theorem own_row {α : Type} {d : Kd α} {e : TypeId} {w : World} {base g n cap : Nat} {cur : List Value} {xs : List α} (hg : w.heap[g]? = some (.cells cur.toArray e (0, 0))) (hb : base ≤ g) (hn : n = xs.length) (hl : n ≤ cap) (hm : cap ≤ 9223372036854775807) (hs : cur.length = cap * d.sz)
    (hr : Reps (d.M w base (fun k => True ∧ some k ≠ some g)) d.sz xs (cur.take (n * d.sz))) : Own d e w base (.slice (some ⟨g, 0, none⟩) n cap) xs := by
  subst hn
  refine ⟨fun _ _ => trivial, cur.take (xs.length * d.sz), ⟨?_, .inr ⟨g, cap, cur.toArray, rfl, hb, hg, hl, by unfold maxLen; omega, by simpa using hs, by simp⟩⟩, hr⟩
  rw [List.length_take, hs, Nat.min_eq_left (Nat.mul_le_mul_right _ hl)]
theorem own_nums {k : IntKind} {e : TypeId} {w : World} {base g n cap : Nat} {cur : List Value} {xs : List Int} (hg : w.heap[g]? = some (.cells cur.toArray e (0, 0))) (hb : base ≤ g) (hn : n = xs.length) (hl : n ≤ cap) (hm : cap ≤ 9223372036854775807) (hs : cur.length = cap) (hr : cur.take n = nums k xs) :
    Own (Kd.int k) e w base (.slice (some ⟨g, 0, none⟩) n cap) xs := by
  refine Kd.R_of_own ?_ (fun _ _ => trivial)
  subst hn
  exact ⟨by simp [encs], .inr ⟨g, cap, cur.toArray, rfl, hb, hg, hl, by unfold maxLen; omega, by simpa using hs, by simpa [nums, encs] using hr⟩⟩

theorem copy_runs (w : World) (ad : Addr) (g dLen dCap : Nat) (A0 : Option Addr) (c0 : Nat) (l0 : List Int) (cur : List Value) (t ty : Nat) (had : ad = ⟨g, 0, none⟩)
    (hg : w.heap[g]? = some (.cells cur.toArray t (0, 0))) (hr : Kd.C (Kd.int .u8) w A0 l0.length l0) (hd : l0.length ≤ dLen) (hf : l0.length ≤ cur.length) :
    Runs Try.prog (Builtin.copy_ #[52, 52] ty #[.slice (some ad) dLen dCap, .slice A0 l0.length c0]) w fun v w' =>
      v = .int .i64 l0.length ∧ w'.heap[g]? = some (.cells (nums .u8 l0 ++ cur.drop l0.length).toArray t (0, 0)) ∧ w.grownBy w' (some g) := by
  subst had
  obtain ⟨i, hi, hz0, hz1, hz2⟩ := info3 info_u8
  rcases Nat.eq_zero_or_pos l0.length with h0 | h0
  · have := run_copy_none (P := Try.prog) w 52 52 ty 5 (some ⟨g, 0, none⟩) A0 dLen dCap l0.length c0 Try.underlying52 (by rw [hi]; simp [hz1]) (by rw [h0]; exact Nat.zero_min _)
    refine ⟨_, _, this, by rw [h0]; rfl, ?_, World.grownBy.refl _ _⟩
    obtain rfl := List.eq_nil_of_length_eq_zero h0
    simpa [nums] using hg
  · obtain ⟨ad, rfl, hc⟩ := reads_cells hr h0
    have := run_copy_row (P := Try.prog) w 52 52 ty 5 g 0 dLen dCap ad l0.length c0 cur.toArray t (nums .u8 l0) Try.underlying52 (by rw [hi]; simp [hz1]) hg (by rw [nums_length]; exact (Nat.min_eq_left hd).symm) hc (by simpa [nums_length] using hf) (nums_one _ _)
    refine ⟨_, _, this, by rw [nums_length]; rfl, ?_, grownBy_setRow _ _ _⟩
    rw [setRow_heap w g _ _ t (0, 0) hg]
    simp [nums_length]
end Go.Proofs.Ytkgbcoijkmlmnaa.K
