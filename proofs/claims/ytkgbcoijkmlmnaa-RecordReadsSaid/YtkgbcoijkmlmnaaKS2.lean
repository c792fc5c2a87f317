/- Bytes lent, kept, written over. -/
import Derived.Test.YtkgbcoijkmlmnaaKS
set_option linter.unusedVariables false
set_option linter.unusedSimpArgs false
set_option maxRecDepth 100000
namespace Go.Proofs.Ytkgbcoijkmlmnaa.K
open Go.RowKit Go.Proofs.YtkgbcoijkmlmnaaW.PrintWords Go.Proofs.YtkgbcoijkmlmnaaW.PrintLast Go.Proofs.YtkgbcoijkmlmnaaW.PrintMore Go.Proofs.Ytkgbcoijkmlmnaa.U Go.Proofs.Ytkgbcoijkmlmnaa.T

/-- Bytes that were lent: a row with three marked cells behind. -/
def LentBytes (w : World) (base g : Nat) (l : List Int) : Prop := base ≤ g ∧ w.heap[g]? = some (.cells (nums .u8 l ++ List.replicate 3 (Value.int .u8 119)).toArray 5 (0, 0))
theorem LentBytes.own {w : World} {base g : Nat} {l : List Int} (h : LentBytes w base g l) (hl : l.length ≤ 100000000) : Own (Kd.int .u8) 5 w base (.slice (some ⟨g, 0, none⟩) l.length (l.length + 3)) l :=
  own_nums h.2 h.1 rfl (by omega) (by omega) (by simp [nums_length]) (by rw [← nums_length .u8 l, List.take_left])
theorem LentBytes.reads {w : World} {base g : Nat} {l : List Int} (h : LentBytes w base g l) (hl : l.length ≤ 100000000) : Kd.C (Kd.int .u8) w (some ⟨g, 0, none⟩) l.length l := by
  obtain ⟨A, c, e, _, hr⟩ := (h.own hl).reads
  simp only [Value.slice.injEq] at e
  obtain ⟨rfl, _, _⟩ := e
  exact hr

theorem LentBytes.below {w w' : World} {base g : Nat} {l : List Int} (h : LentBytes w base g l) (hb : Below w.heap.size w w') : LentBytes w' base g l := ⟨h.1, (hb.block g (blk_lt' h.2)).trans h.2⟩
theorem LentBytes.lt {w : World} {base g : Nat} {l : List Int} (h : LentBytes w base g l) : g < w.heap.size := blk_lt' h.2
theorem LentBytes.other {w w' : World} {base g : Nat} {l : List Int} {v : Value} (h : LentBytes w base g l) (hg : w.grownBy w' v.ownBlock) (hne : ∀ k, v.ownBlock = some k → g ≠ k) : LentBytes w' base g l := ⟨h.1, grown_keeps hg h.2 hne⟩

set_option maxHeartbeats 800000 in
theorem lendBytes (A0 : Option Addr) (c0 : Nat) (l0 : List Int) (w : World) (hr0 : Kd.C (Kd.int .u8) w A0 l0.length l0) (hl : l0.length ≤ 100000000) :
    Calls Try.prog 26 #[.slice A0 l0.length c0] w fun e w' => ∃ g, e = .returned (.slice (some ⟨g, 0, none⟩) l0.length (l0.length + 3)) ∧ LentBytes w' w.heap.size g l0 ∧ Below w.heap.size w w' := by
  have HR0 := Aside0.mk hr0
  clear hr0
  go_enter Try.func26, Try.ntmps26
  go_wp2_with fail
  refine upon_runs (make_runs Try.prog w 52 5 _ 1 1 Try.underlying52 info_u8 rfl (by omega) .i64 .i64 _ _ 0 (l0.length + 3) (by omega) (by omega) (by omega) (by omega) (by omega)) ?_
  rintro _ w1 ⟨rfl, hw1⟩
  have HB : Below w.heap.size w w1 := by rw [hw1]; exact (Below.refl _ _).alloc (Nat.le_refl _) _
  have HG : w1.heap[w.heap.size]? = some (.cells (List.replicate (l0.length + 3) (Value.int .u8 0)).toArray 5 (0, 0)) := by rw [hw1, zcells_one _ _ rfl]; exact alloc_at w _
  have HR1 := Kd.C_below HR0.out HB
  clear hw1
  have HB1 := Aside0.mk HB
  have HG1 := Aside0.mk HG
  have HRa := Aside0.mk HR1
  clear HB HG HR1
  have key : ∃ cells w2, (Builtin.append_ #[52, 52] 52 #[.slice (some ⟨w.heap.size, 0, none⟩) 0 (l0.length + 3), .slice A0 l0.length c0]).run Try.prog w1 = .ok (.slice (some ⟨w.heap.size, 0, none⟩) l0.length (l0.length + 3)) w2 ∧
      w2.heap[w.heap.size]? = some (.cells (nums .u8 l0 ++ List.replicate 3 (Value.int .u8 0)).toArray 5 (0, 0)) ∧ w1.grownBy w2 (some w.heap.size) ∧ cells = 0 := by
    rcases Nat.eq_zero_or_pos l0.length with h0 | h0
    · obtain rfl := List.eq_nil_of_length_eq_zero h0
      rcases A0 with _ | ad
      · obtain ⟨_, _, hr, rfl, rfl⟩ := append_none_runs Try.prog w1 52 52 5 1 1 _ Try.underlying52 info_u8 (some ⟨w.heap.size, 0, none⟩) 0 3 (by omega) c0
        exact ⟨0, _, hr, HG1.out, World.grownBy.refl _ _, rfl⟩
      · obtain ⟨_, w2, hr, rfl, hg, hb⟩ := append_room_runs Try.prog w1 52 52 5 1 1 _ Try.underlying52 info_u8 _ w.heap.size 0 3 _ rfl HG1.out ad 0 c0 [] rfl (by simp) (by simp) (by omega) (by simp)
        exact ⟨0, w2, hr, by simpa [nums] using hg, hb, rfl⟩
    · obtain ⟨ad, rfl, hc⟩ := reads_cells HRa.out h0
      obtain ⟨_, w2, hr, rfl, hg, hb⟩ := append_room_runs Try.prog w1 52 52 5 1 1 _ Try.underlying52 info_u8 _ w.heap.size 0 (l0.length + 3) _ rfl HG1.out ad l0.length c0 (nums .u8 l0) (by simp [nums_length]) hc (nums_one _ _) (by omega) (by simp [nums_length])
      refine ⟨0, w2, by simpa using hr, ?_, hb, rfl⟩
      rw [hg]
      simp [nums_length]
  obtain ⟨_, w2, hap, hg2, hgr2, _⟩ := key
  have HAP := Aside0.mk hap
  have HB2 := Aside0.mk (below_self HB1.out hgr2 HB1.out.size (Nat.le_refl _))
  have HG2 := Aside0.mk hg2
  clear hap hg2 hgr2 HG1 HRa HB1
  go_wp2_with (at_builtin; refine wpList_append_runs (R := fun v w' => v = .slice (some ⟨w.heap.size, 0, none⟩) l0.length (l0.length + 3) ∧ w' = w2) rfl _ _ _ _ rfl _ _ rfl rfl ⟨_, _, HAP.out, rfl, rfl⟩ ?_; rintro _ w3 ⟨rfl, hw3⟩; have HW3 := Aside0.mk hw3; clear hw3 HAP)
  obtain rfl := HW3.out
  rw [show l0.length + 3 - l0.length = 3 from by omega]
  go_loopg [5] 3 (fun kq v5 w' => ∃ k : Nat, k + kq = 3 ∧ v5 = .int .i64 k ∧
    Aside0 (w'.heap[w.heap.size]? = some (.cells (nums .u8 l0 ++ List.replicate k (Value.int .u8 119) ++ List.replicate (3 - k) (Value.int .u8 0)).toArray 5 (0, 0))) ∧ Aside0 (Below w.heap.size w w'))
  case atStart => exact ⟨0, rfl, rfl, ⟨by rw [HG2.out]; simp⟩, HB2⟩
  case round =>
    obtain ⟨k, hk, rfl, HG, HB⟩ := hrel
    by_cases hlt : k < 3
    · have hcell : wr.cell? ⟨w.heap.size, l0.length + k, none⟩ = some (.int .u8 0) := by
        rw [cell_of_blk HG.out, List.append_assoc, List.getElem?_append_right (by simp [nums_length]), List.getElem?_append_right (by simp [nums_length]), List.getElem?_replicate]
        simp [nums_length]
        omega
      have hfz := frozen_of_blk (j := l0.length + k) HG.out
      go_wp2_with fail
      go_roundg (2 - k)
      case measure => omega
      case rel =>
        refine ⟨k + 1, by omega, by go_num, ⟨?_⟩, ⟨HB.out.setCell (Nat.le_refl _) _⟩⟩
        rw [setCell_blk HG.out, show 3 - k = (3 - (k + 1)) + 1 from by omega, List.replicate_succ (n := 3 - (k + 1)), List.replicate_succ' (n := k)]
        congr 2
        rw [List.set_append_right _ _ (by simp [nums_length])]
        simp [nums_length]
    · obtain rfl : k = 3 := by omega
      go_wp2_with fail
      go_ret
      exact ⟨_, rfl, ⟨Nat.le_refl _, by rw [HG.out]; simp⟩, HB.out⟩

set_option maxHeartbeats 800000 in
theorem keptBytes (g : Nat) (A1 : Option Addr) (c1 : Nat) (l0 l1 : List Int) (w : World) (base : Nat) (hL : LentBytes w base g l0) (hr1 : Kd.C (Kd.int .u8) w A1 l1.length l1) (hl : l0.length ≤ 100000000) (r : Bool) (hr : r = decide (l0 = l1)) :
    Calls Try.prog 30 #[.slice (some ⟨g, 0, none⟩) l0.length (l0.length + 3), .slice A1 l1.length c1] w fun e w' => e = .returned (.bool r) ∧ Below w.heap.size w w' := by
  have HL := Aside0.mk hL
  have HR1 := Aside0.mk hr1
  have HR := Aside0.mk hr
  clear hL hr1 hr
  go_enter Try.func30, Try.ntmps30
  go_wp2_with fail
  try rw [show l0.length + 3 - l0.length = 3 from by omega]
  go_loopg [6] 3 (fun kq v6 w' => ∃ k : Nat, k + kq = 3 ∧ v6 = .int .i64 k ∧ Drawn0 w w')
  case atStart => exact ⟨0, rfl, rfl, Drawn0.refl _⟩
  case round =>
    obtain ⟨k, hk, rfl, ⟨m1, rfl⟩⟩ := hrel
    by_cases hlt : k < 3
    · have hcell : w.cell? ⟨g, l0.length + k, none⟩ = some (.int .u8 119) := by
        rw [cell_of_blk HL.out.2, List.getElem?_append_right (by simp [nums_length]), List.getElem?_replicate]
        simp [nums_length]
        omega
      go_wp2_with fail
      go_roundg (2 - k)
      case measure => omega
      case rel => exact ⟨k + 1, by omega, by go_num, by repeat (first | exact Drawn0.refl _ | apply Drawn0.step)⟩
    · go_wp2_with fail
      refine (sameBytes _ _ l0 _ _ l1 _ (Kd.C_drewN (HL.out.reads hl) m1) (Kd.C_drewN HR1.out m1) r HR.out).mono ?_
      rintro e w5 ⟨rfl, hb⟩
      have HB := Aside0.mk hb
      clear hb
      go_wp2_with fail
      go_ret
      exact ⟨rfl, (Drawn0.step (Drawn0.refl w) m1).below.trans HB.out⟩

set_option maxHeartbeats 800000 in
theorem overBytes (v : Value) (l0 : List Int) (base : Nat) (w : World) (hO : Own (Kd.int .u8) 5 w base v l0) (hb : base ≤ w.heap.size) (hl : l0.length ≤ 100000000) :
    Calls Try.prog 38 #[v] w fun e w' => e = .returned (.tuple #[]) ∧ w.grownBy w' v.ownBlock := by
  obtain ⟨A, c, rfl, hc, hrd⟩ := hO.reads
  have HO := Aside0.mk hO
  clear hrd
  rcases Nat.eq_zero_or_pos l0.length with h0 | h0
  · obtain rfl := List.eq_nil_of_length_eq_zero h0
    have hb' : base ≤ w.heap.size := hb
    clear hO hl h0
    go_enter Try.func38, Try.ntmps38
    go_wp2_with fail
    go_loopg [2] 1 (fun kq v2 w' => v2 = .int .i64 0 ∧ w' = w)
    case atStart => exact ⟨rfl, rfl⟩
    case round =>
      obtain ⟨rfl, rfl⟩ := hrel
      go_wp2_with (at_builtin; refine wpList_append_runs rfl _ _ _ _ rfl _ _ rfl rfl (append_one_runs Try.prog (flat_int .u8) 52 _ _ 1 Try.underlying52 info_u8 rfl (by decide) (x := 238) (cs := [.int .u8 238]) HO.out rfl hb' (by simp) (by simp) 5 _ rfl _ rfl) ?_; rintro v4 w4 ⟨hv4, hg4⟩; have HG4 := Aside0.mk hg4; clear hv4 hg4)
      go_end0
      exact ⟨rfl, (World.grownBy_alloc _ _ _).trans HG4.out⟩
  · obtain ⟨g, cap, he, hbg, hlt, _⟩ := Kd.R_form hO h0
    simp only [Value.slice.injEq] at he
    obtain ⟨rfl, _, rfl⟩ := he
    have hb' : base ≤ w.heap.size := hb
    clear hO
    go_enter Try.func38, Try.ntmps38
    go_wp2_with fail
    go_loopg [2] l0.length (fun kq v2 w' => ∃ (k : Nat) (ls : List Int), k + kq = l0.length ∧ v2 = .int .i64 k ∧ Aside0 (ls.length = l0.length) ∧ Aside0 (Own (Kd.int .u8) 5 w' base (.slice (some ⟨g, 0, none⟩) l0.length c) ls) ∧ Aside0 (w.grownBy w' (some g)))
    case atStart => exact ⟨0, l0, by omega, rfl, ⟨rfl⟩, HO, ⟨World.grownBy.refl _ _⟩⟩
    case round =>
      obtain ⟨k, ls, hk, rfl, HLS, HO1, HG⟩ := hrel
      by_cases hlt : k < l0.length
      · obtain ⟨hcell, hfz⟩ := Kd.R_celln (0 : Int) HO1.out (k : Int) (by omega) (by omega)
        obtain ⟨hput, hgp⟩ := Kd.R_putg HO1.out (k : Int) (238 : Int)
        rw [Int.toNat_natCast] at hcell hfz hput hgp
        have HP := Aside0.mk hput
        have HGP := Aside0.mk hgp
        clear hput hgp
        go_wp2_with fail
        go_roundg (l0.length - (k + 1))
        case measure => omega
        case rel => exact ⟨k + 1, ls.set k 238, by omega, by go_num, ⟨by rw [List.length_set]; exact HLS.out⟩, ⟨HP.out⟩, ⟨HG.out.trans HGP.out⟩⟩
      · have hsz : base ≤ wr.heap.size := Nat.le_trans hb' HG.out.size
        have hl2 := HLS.out
        have HL2 := Aside0.mk hl2
        clear hl2
        go_wp2_with (at_builtin; refine wpList_append_runs rfl _ _ _ _ rfl _ _ rfl rfl (append_one_runs Try.prog (flat_int .u8) 52 _ _ 1 Try.underlying52 info_u8 rfl (by decide) (x := 238) (cs := [.int .u8 238]) HO1.out rfl hsz (by rw [HL2.out]; omega) (by rw [HL2.out]; omega) 5 _ rfl _ rfl) ?_; rintro v4 w4 ⟨hv4, hg4⟩; have HG4 := Aside0.mk hg4; clear hv4 hg4)
        go_end0
        exact ⟨rfl, HG.out.trans ((World.grownBy_alloc _ _ _).trans HG4.out)⟩

end Go.Proofs.Ytkgbcoijkmlmnaa.K
