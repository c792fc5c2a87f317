/- What the functions on bytes come to: numbers and texts laid and read, lists held against one another, lent, kept, written over. -/
import Derived.Test.YtocooepdibgelaaT
import Derived.Deep.LoopGhost
import Derived.Deep.QuietTactic
import Derived.BigQuiet
set_option linter.unusedVariables false
set_option linter.unusedSimpArgs false
namespace Go.Proofs.Ytocooepdibgelaa.K
open Go.RowKit Go.Proofs.YtocooepdibgelaaW.PrintWords Go.Proofs.YtocooepdibgelaaW.PrintLast Go.Proofs.YtocooepdibgelaaW.PrintMore Go.Proofs.Ytocooepdibgelaa.U Go.Proofs.Ytocooepdibgelaa.T

theorem info_u8 : (Try.prog.info? 5).map (fun i => (i.zero, i.size, i.bytes)) = some (some (.int .u8 0), 1, 1) := by kernel_rfl

set_option maxHeartbeats 800000 in
theorem sameBytes (A0 : Option Addr) (c0 : Nat) (l0 : List Int) (A1 : Option Addr) (c1 : Nat) (l1 : List Int) (w : World) (hr0 : Kd.C (Kd.int .u8) w A0 l0.length l0) (hr1 : Kd.C (Kd.int .u8) w A1 l1.length l1) (r : Bool) (hr : r = decide (l0 = l1)) :
    Calls Try.prog 32 #[.slice A0 l0.length c0, .slice A1 l1.length c1] w fun e w' => e = .returned (.bool r) ∧ Below w.heap.size w w' := by
  have HR := Aside0.mk hr
  have HR0 := Aside0.mk hr0
  have HR1 := Aside0.mk hr1
  have hm0 := Kd.C_max hr0
  clear hr hr0 hr1
  by_cases hl : l0.length = l1.length
  · have HL := Aside0.mk hl
    have hb0 : (l0.length == l1.length) = true := by simpa using hl
    have hb1 : ((l0.length : Int) == (l1.length : Int)) = true := by simp [hl]
    have hb2 : ((l0.length : Int) != (l1.length : Int)) = false := by simp [hl]
    clear hl
    go_enter Try.func32, Try.ntmps32
    go_wp2_with fail
    go_loopg [5] l0.length (fun kq v5 w' => ∃ k : Nat, k + kq = l0.length ∧ v5 = .int .i64 k ∧ Aside0 (l0.take k = l1.take k) ∧ Drawn0 w w')
    case atStart => exact ⟨0, by omega, rfl, ⟨by simp⟩, Drawn0.refl _⟩
    case round =>
      obtain ⟨k, hk, rfl, HT, ⟨m1, rfl⟩⟩ := hrel
      clear hb0 hb1 hb2
      by_cases hlt : k < l0.length
      · have hlt1 : (k : Int) < (l1.length : Int) := by have := HL.out; omega
        have hlt0 : (k : Int) < (l0.length : Int) := by omega
        obtain ⟨ad0, e0, hx0⟩ := Kd.at_int HR0.out (k : Int) (by omega) hlt0
        obtain ⟨ad1, e1, hx1⟩ := Kd.at_int HR1.out (k : Int) (by omega) hlt1
        cases e0
        cases e1
        rw [Int.toNat_natCast] at hx0 hx1
        obtain ⟨a, ha⟩ : ∃ a, a = rd l0 k := ⟨_, rfl⟩
        obtain ⟨b, hb⟩ : ∃ b, b = rd l1 k := ⟨_, rfl⟩
        rw [← ha] at hx0
        rw [← hb] at hx1
        have HA := Aside0.mk ha
        have HB := Aside0.mk hb
        clear ha hb
        have g0 : l0.take (k + 1) = l0.take k ++ [a] := by
          rw [List.take_succ_eq_append_getElem hlt, HA.out]
          simp [rd, List.getD_eq_getElem?_getD, hlt]
        have hk1 : k < l1.length := by omega
        have g1 : l1.take (k + 1) = l1.take k ++ [b] := by
          rw [List.take_succ_eq_append_getElem hk1, HB.out]
          simp [rd, List.getD_eq_getElem?_getD, hk1]
        have G0 := Aside0.mk g0
        have G1 := Aside0.mk g1
        clear g0 g1
        by_cases hab : a = b
        · subst hab
          have hne : (a != a) = false := by simp
          go_wp2_with fail
          go_quiet (fail)
          go_wp2_with fail
          go_roundg (l0.length - (k + 1))
          case measure => omega
          case rel => exact ⟨k + 1, by omega, by go_num, ⟨by rw [G0.out, G1.out, HT.out]⟩, by repeat (first | exact Drawn0.refl _ | apply Drawn0.step)⟩
        · have hne : (a != b) = true := by simpa using hab
          have hrf : r = false := by
            rw [HR.out]
            refine decide_eq_false fun h => hab ?_
            have h2 := G0.out
            rw [h, G1.out, ← h, HT.out] at h2
            have h3 := List.append_cancel_left h2
            simpa using h3.symm
          have HRF := Aside0.mk hrf
          clear hab hrf
          go_wp2_with fail
          go_quiet (fail)
          go_wp2_with fail
          go_ret
          exact ⟨by rw [HRF.out]; rfl, (Drawn0.step (Drawn0.step (Drawn0.refl w) m1) _).below⟩
      · go_wp2_with fail
        go_ret
        refine ⟨?_, (Drawn0.step (Drawn0.refl w) m1).below⟩
        rw [HR.out]
        have h2 := HT.out
        rw [List.take_of_length_le (by omega), List.take_of_length_le (by have := HL.out; omega)] at h2
        rw [decide_eq_true h2]
        rfl
  · have hb0 : (l0.length == l1.length) = false := by simpa using hl
    have hb1 : ((l0.length : Int) == (l1.length : Int)) = false := by simpa using fun h : (l0.length : Int) = l1.length => hl (by omega)
    have hb2 : ((l0.length : Int) != (l1.length : Int)) = true := by simpa using fun h : (l0.length : Int) = l1.length => hl (by omega)
    have hrf : r = false := by
      rw [HR.out]
      exact decide_eq_false fun h => hl (by rw [h])
    have HRF := Aside0.mk hrf
    clear hl hrf
    go_enter Try.func32, Try.ntmps32
    go_wp2_with fail
    go_ret
    exact ⟨by rw [HRF.out]; rfl, Below.refl _ _⟩

set_option maxHeartbeats 800000 in
theorem readNum_ok (A0 : Option Addr) (c0 : Nat) (l0 : List Int) (at_ : Int) (w : World) (hr0 : Kd.C (Kd.int .u8) w A0 l0.length l0) (hc0 : l0.length ≤ c0) (h0 : 0 ≤ at_) (h1 : at_ + 8 ≤ l0.length) :
    Calls Try.prog 37 #[.slice A0 l0.length c0, .int .i64 at_] w fun e w' => e = .returned (.tuple #[.int .i64 (dec8 ((l0.drop at_.toNat).take 8)), .int .i64 (at_ + 8), .bool true]) ∧ Below w.heap.size w w' := by
  obtain ⟨p, rfl⟩ := Int.eq_ofNat_of_zero_le h0
  rw [Int.toNat_natCast]
  have hm0 := Kd.C_max hr0
  obtain ⟨ad, rfl, hcells⟩ := reads_cells hr0 (by omega)
  have HC := Aside0.mk hcells
  have hc1 : (l0.length : Int) ≤ c0 := by omega
  clear hr0 hcells h0
  go_enter Try.func37, Try.ntmps37
  go_wp2_with fail
  go_loopg [7, 31] 8 (fun kq v7 v31 w' => ∃ (k : Nat) (n : Int), k + kq = 8 ∧ v31 = .int .i64 k ∧ v7 = .int .u64 n ∧ Aside0 (n = ((l0.drop p).take k).foldl accB 0) ∧ Drawn0 w w')
  case atStart => exact ⟨0, 0, by omega, rfl, rfl, ⟨rfl⟩, Drawn0.refl _⟩
  case round =>
    obtain ⟨k, n, hk, rfl, rfl, HT, ⟨m1, rfl⟩⟩ := hrel
    by_cases hlt : k < 8
    · obtain ⟨x, hx⟩ : ∃ x, x = l0[p + k]'(by omega) := ⟨_, rfl⟩
      have hcell : w.cell? ((ad.add p).add k) = some (.int .u8 x) := by rw [hx]; exact cut_cell HC.out p k (by omega)
      have HX := Aside0.mk hx
      clear hx
      go_wp2_with fail
      go_roundg (7 - k)
      case measure => omega
      case rel => exact ⟨k + 1, accB n x, by omega, by go_num, rfl, ⟨by rw [take_one_more _ _ _ (by omega), List.foldl_append, ← HT.out, ← HX.out]; rfl⟩, Drawn0.step (Drawn0.refl _) m1⟩
    · obtain rfl : k = 8 := by omega
      go_wp2_with fail
      go_ret3
      exact ⟨by rw [dec8, ← HT.out]; rfl, (Drawn0.step (Drawn0.refl w) m1).below⟩
set_option maxHeartbeats 800000 in
theorem readNum_no (A0 : Option Addr) (c0 : Nat) (l0 : List Int) (at_ : Int) (w : World) (hr0 : Kd.C (Kd.int .u8) w A0 l0.length l0) (hc0 : l0.length ≤ c0) (h1 : at_ < 0 ∨ (l0.length : Int) < at_ + 8) (h2 : at_ ≤ 9223372036854775807) :
    Calls Try.prog 37 #[.slice A0 l0.length c0, .int .i64 at_] w fun e w' => e = .returned (.tuple #[.int .i64 0, .int .i64 0, .bool false]) ∧ Below w.heap.size w w' := by
  have hm0 := Kd.C_max hr0
  have HR0 := Aside0.mk hr0
  clear hr0
  by_cases h3 : at_ < 0
  · clear h1
    go_enter Try.func37, Try.ntmps37
    go_wp2_with fail
    go_ret3
    exact ⟨rfl, Below.refl _ _⟩
  · have h4 : (l0.length : Int) < at_ + 8 := by omega
    clear h1
    by_cases h5 : (l0.length : Int) < at_
    · go_enter Try.func37, Try.ntmps37
      go_wp2_with fail
      go_ret3
      exact ⟨rfl, Below.refl _ _⟩
    · go_enter Try.func37, Try.ntmps37
      go_wp2_with fail
      go_ret3
      exact ⟨rfl, Below.refl _ _⟩

set_option maxHeartbeats 800000 in
theorem refReadNum_ok (A0 : Option Addr) (c0 : Nat) (l0 : List Int) (at_ : Int) (w : World) (hr0 : Kd.C (Kd.int .u8) w A0 l0.length l0) (hc0 : l0.length ≤ c0) (h0 : 0 ≤ at_) (h1 : at_ + 8 ≤ l0.length) :
    Calls Try.prog 38 #[.slice A0 l0.length c0, .int .i64 at_] w fun e w' => e = .returned (.tuple #[.int .i64 (dec8 ((l0.drop at_.toNat).take 8)), .int .i64 (at_ + 8), .bool true]) ∧ Below w.heap.size w w' := by
  obtain ⟨p, rfl⟩ := Int.eq_ofNat_of_zero_le h0
  rw [Int.toNat_natCast]
  have hm0 := Kd.C_max hr0
  obtain ⟨ad, rfl, hcells⟩ := reads_cells hr0 (by omega)
  have HC := Aside0.mk hcells
  have hc1 : (l0.length : Int) ≤ c0 := by omega
  clear hr0 hcells h0
  go_enter Try.func38, Try.ntmps38
  go_wp2_with fail
  go_loopg [7, 8] 8 (fun kq v7 v31 w' => ∃ (k : Nat) (n : Int), k + kq = 8 ∧ v31 = .int .i64 k ∧ v7 = .int .u64 n ∧ Aside0 (n = ((l0.drop p).take k).foldl accB 0) ∧ Drawn0 w w')
  case atStart => exact ⟨0, 0, by omega, rfl, rfl, ⟨rfl⟩, Drawn0.refl _⟩
  case round =>
    obtain ⟨k, n, hk, rfl, rfl, HT, ⟨m1, rfl⟩⟩ := hrel
    by_cases hlt : k < 8
    · obtain ⟨x, hx⟩ : ∃ x, x = l0[p + k]'(by omega) := ⟨_, rfl⟩
      have hcell : w.cell? (ad.add (p + k)) = some (.int .u8 x) := by rw [hx]; exact HC.out _ _ (nums_at _ _ _ (by omega))
      have HX := Aside0.mk hx
      clear hx
      go_wp2_with fail
      go_roundg (7 - k)
      case measure => omega
      case rel => exact ⟨k + 1, accB n x, by omega, by go_num, rfl, ⟨by rw [take_one_more _ _ _ (by omega), List.foldl_append, ← HT.out, ← HX.out]; rfl⟩, Drawn0.step (Drawn0.refl _) m1⟩
    · obtain rfl : k = 8 := by omega
      go_wp2_with fail
      go_ret3
      exact ⟨by rw [dec8, ← HT.out]; rfl, (Drawn0.step (Drawn0.refl w) m1).below⟩
set_option maxHeartbeats 800000 in
theorem refReadNum_no (A0 : Option Addr) (c0 : Nat) (l0 : List Int) (at_ : Int) (w : World) (hr0 : Kd.C (Kd.int .u8) w A0 l0.length l0) (hc0 : l0.length ≤ c0) (h1 : at_ < 0 ∨ (l0.length : Int) < at_ + 8) (h2 : at_ ≤ 9223372036854775807) :
    Calls Try.prog 38 #[.slice A0 l0.length c0, .int .i64 at_] w fun e w' => e = .returned (.tuple #[.int .i64 0, .int .i64 0, .bool false]) ∧ Below w.heap.size w w' := by
  have hm0 := Kd.C_max hr0
  have HR0 := Aside0.mk hr0
  clear hr0
  by_cases h3 : at_ < 0
  · clear h1
    go_enter Try.func38, Try.ntmps38
    go_wp2_with fail
    go_ret3
    exact ⟨rfl, Below.refl _ _⟩
  · have h4 : (l0.length : Int) < at_ + 8 := by omega
    clear h1
    by_cases h5 : (l0.length : Int) < at_
    · go_enter Try.func38, Try.ntmps38
      go_wp2_with fail
      go_ret3
      exact ⟨rfl, Below.refl _ _⟩
    · go_enter Try.func38, Try.ntmps38
      go_wp2_with fail
      go_ret3
      exact ⟨rfl, Below.refl _ _⟩

/-- Eight bytes are laid behind. -/
theorem own_row {α : Type} {d : Kd α} {e : TypeId} {w : World} {base g n cap : Nat} {cur : List Value} {xs : List α} (hg : w.heap[g]? = some (.cells cur.toArray e (0, 0))) (hb : base ≤ g) (hn : n = xs.length) (hl : n ≤ cap) (hm : cap ≤ 9223372036854775807) (hs : cur.length = cap * d.sz)
    (hr : Reps (d.M w base (fun k => True ∧ some k ≠ some g)) d.sz xs (cur.take (n * d.sz))) : Own d e w base (.slice (some ⟨g, 0, none⟩) n cap) xs := by
  subst hn
  refine ⟨fun _ _ => trivial, cur.take (xs.length * d.sz), ⟨?_, .inr ⟨g, cap, cur.toArray, rfl, hb, hg, hl, by unfold maxLen; omega, by simpa using hs, by simp⟩⟩, hr⟩
  rw [List.length_take, hs, Nat.min_eq_left (Nat.mul_le_mul_right _ hl)]
theorem own_nums {k : IntKind} {e : TypeId} {w : World} {base g n cap : Nat} {cur : List Value} {xs : List Int} (hg : w.heap[g]? = some (.cells cur.toArray e (0, 0))) (hb : base ≤ g) (hn : n = xs.length) (hl : n ≤ cap) (hm : cap ≤ 9223372036854775807) (hs : cur.length = cap) (hr : cur.take n = nums k xs) :
    Own (Kd.int k) e w base (.slice (some ⟨g, 0, none⟩) n cap) xs := by
  refine Kd.R_of_own ?_ (fun _ _ => trivial)
  subst hn
  exact ⟨by simp [encs], .inr ⟨g, cap, cur.toArray, rfl, hb, hg, hl, by unfold maxLen; omega, by simpa using hs, by simpa [nums, encs] using hr⟩⟩

theorem copy_runs (w : World) (ad : Addr) (g dLen dCap : Nat) (A0 : Option Addr) (c0 : Nat) (l0 : List Int) (cur : List Value) (t ty : Nat) (had : ad = ⟨g, 0, none⟩)
    (hg : w.heap[g]? = some (.cells cur.toArray t (0, 0))) (hr : Kd.C (Kd.int .u8) w A0 l0.length l0) (hd : l0.length ≤ dLen) (hf : l0.length ≤ cur.length) :
    Runs Try.prog (Builtin.copy_ #[38, 38] ty #[.slice (some ad) dLen dCap, .slice A0 l0.length c0]) w fun v w' =>
      v = .int .i64 l0.length ∧ w'.heap[g]? = some (.cells (nums .u8 l0 ++ cur.drop l0.length).toArray t (0, 0)) ∧ w.grownBy w' (some g) := by
  subst had
  obtain ⟨i, hi, hz0, hz1, hz2⟩ := info3 info_u8
  rcases Nat.eq_zero_or_pos l0.length with h0 | h0
  · have := run_copy_none (P := Try.prog) w 38 38 ty 5 (some ⟨g, 0, none⟩) A0 dLen dCap l0.length c0 Try.underlying38 (by rw [hi]; simp [hz1]) (by rw [h0]; exact Nat.zero_min _)
    refine ⟨_, _, this, by rw [h0]; rfl, ?_, World.grownBy.refl _ _⟩
    obtain rfl := List.eq_nil_of_length_eq_zero h0
    simpa [nums] using hg
  · obtain ⟨ad, rfl, hc⟩ := reads_cells hr h0
    have := run_copy_row (P := Try.prog) w 38 38 ty 5 g 0 dLen dCap ad l0.length c0 cur.toArray t (nums .u8 l0) Try.underlying38 (by rw [hi]; simp [hz1]) hg (by rw [nums_length]; exact (Nat.min_eq_left hd).symm) hc (by simpa [nums_length] using hf) (nums_one _ _)
    refine ⟨_, _, this, by rw [nums_length]; rfl, ?_, grownBy_setRow _ _ _⟩
    rw [setRow_heap w g _ _ t (0, 0) hg]
    simp [nums_length]
set_option maxHeartbeats 800000 in
theorem num (A0 : Option Addr) (c0 : Nat) (l0 : List Int) (n : Int) (w : World) (hr0 : Kd.C (Kd.int .u8) w A0 l0.length l0) (hl : l0.length ≤ 100000000) :
    Calls Try.prog 30 #[.slice A0 l0.length c0, .int .i64 n] w fun e w' => ∃ v X, e = .returned v ∧ Own (Kd.int .u8) 5 w' w.heap.size v X ∧ Aside0 (X = l0 ++ bytes8 n 8) ∧ Below w.heap.size w w' := by
  have HR0 := Aside0.mk hr0
  clear hr0
  go_enter Try.func30, Try.ntmps30
  go_wp2_with fail
  refine upon_runs (make_runs Try.prog w 38 5 _ 1 1 Try.underlying38 info_u8 rfl (by omega) .i64 .i64 _ _ l0.length (l0.length + 8) (by omega) (by omega) (by omega) (by omega) (by omega)) ?_
  rintro _ w1 ⟨rfl, hw1⟩
  have HB : Below w.heap.size w w1 := by rw [hw1]; exact (Below.refl _ _).alloc (Nat.le_refl _) _
  have HG : w1.heap[w.heap.size]? = some (.cells (List.replicate (l0.length + 8) (Value.int .u8 0)).toArray 5 (0, 0)) := by rw [hw1, zcells_one _ _ rfl]; exact alloc_at w _
  have HR1 := Kd.C_below HR0.out HB
  clear hw1
  have HB1 := Aside0.mk HB
  have HG1 := Aside0.mk HG
  have HRa := Aside0.mk HR1
  clear HB HG HR1
  go_wp2_with fail
  refine upon_runs (copy_runs w1 _ w.heap.size _ _ A0 c0 l0 _ 5 _ rfl HG1.out HRa.out (by omega) (by simp)) ?_
  rintro _ w2 ⟨rfl, hg2, hgr2⟩
  have HB2 := Aside0.mk (HB1.out.grown hgr2 HB1.out.size (fun k hk => by cases hk; exact Nat.le_refl _))
  have HG2 := Aside0.mk hg2
  clear hg2 hgr2 HG1 HRa HB1
  go_wp2_with fail
  go_loopg [5, 16] 8 (fun kq v5 v16 w' => ∃ k : Nat, k + kq = 8 ∧ v5 = .slice (some ⟨w.heap.size, 0, none⟩) (l0.length + k) (l0.length + 8) ∧ v16 = .int .i64 k ∧
    Aside0 (w'.heap[w.heap.size]? = some (.cells (nums .u8 (l0 ++ bytes8 n k) ++ List.replicate (8 - k) (Value.int .u8 0)).toArray 5 (0, 0))) ∧ Aside0 (Below w.heap.size w w'))
  case atStart => exact ⟨0, rfl, rfl, rfl, ⟨by rw [HG2.out]; simp [bytes8]⟩, HB2⟩
  case round =>
    obtain ⟨k, hk, rfl, rfl, HG, HB⟩ := hrel
    by_cases hlt : k < 8
    · have HBw : w.heap.size < wr.heap.size := blk_lt' HG.out
      go_wp2_with (at_builtin; refine wpList_append_runs rfl _ _ _ _ rfl _ _ rfl rfl (append_room_runs Try.prog _ 38 _ 5 1 1 _ Try.underlying38 info_u8 _ w.heap.size (l0.length + k) (l0.length + 8) (nums .u8 (l0 ++ bytes8 n k) ++ List.replicate (8 - k) (Value.int .u8 0)) rfl ?c1 _ 1 1 [.int .u8 (byteN n k)] rfl ?c2 ?c3 (by omega) ?c4) ?_; rotate_right; rintro _ w4 ⟨rfl, hg4, hgr4⟩; have HG4 := Aside0.mk hg4; have HR4 := Aside0.mk hgr4; clear hg4 hgr4)
      case c1 => exact alloc_keeps HG.out _
      case c2 => rw [fold_byteN]; exact cells_new _ [_] _
      case c3 => intro u hu; obtain rfl := List.mem_singleton.1 hu; rfl
      case c4 => simp [nums_length, bytes8_length]; omega
      go_roundg (7 - k)
      case measure => omega
      case rel =>
        refine ⟨k + 1, by omega, rfl, by go_num, ⟨?_⟩, ⟨?_⟩⟩
        · rw [HG4.out, bytes8_succ, show 8 - k = (8 - (k + 1)) + 1 from by omega]
          congr 2
          rw [show (l0.length + k) * 1 = (nums .u8 (l0 ++ bytes8 n k)).length from by simp [nums_length, bytes8_length], List.take_left, List.length_singleton, replicate_drop1 _ _ _ _ rfl]
          simp [nums]
        · exact (HB.out.alloc HB.out.size _).grown HR4.out (by simpa using Nat.le_succ_of_le HB.out.size) (fun j hj => by cases hj; exact Nat.le_refl _)
    · go_wp2_with fail
      obtain rfl : k = 8 := by omega
      go_ret
      refine ⟨.slice (some ⟨w.heap.size, 0, none⟩) (l0.length + 8) (l0.length + 8), _, rfl, ?_, ⟨rfl⟩, HB.out⟩
      exact own_nums HG.out (Nat.le_refl _) (by simp [bytes8_length]) (Nat.le_refl _) (by omega) (by simp [nums_length, bytes8_length]) (by simp [nums]; exact List.take_of_length_le (by simp [bytes8_length]))

set_option maxHeartbeats 800000 in
theorem text (A0 : Option Addr) (c0 : Nat) (l0 : List Int) (s : ByteArray) (w : World) (hr0 : Kd.C (Kd.int .u8) w A0 l0.length l0) (hl : l0.length ≤ 100000000) (hs : s.size ≤ 100000000) :
    Calls Try.prog 31 #[.slice A0 l0.length c0, .string s] w fun e w' => ∃ v X, e = .returned v ∧ Own (Kd.int .u8) 5 w' w.heap.size v X ∧ Aside0 (X = l0 ++ bytes8 s.size 8 ++ bytesOf s) ∧ Below w.heap.size w w' := by
  have HR0 := Aside0.mk hr0
  clear hr0
  go_enter Try.func31, Try.ntmps31
  go_wp2_with fail
  refine (num A0 c0 l0 _ w HR0.out hl).mono ?_
  rintro e w1 ⟨v, X, rfl, hv, HX, hb⟩
  have HV := Aside0.mk hv
  have HB := Aside0.mk hb
  clear hv hb
  go_wp2_with (at_builtin; refine wpList_append_runs rfl _ _ _ _ rfl _ _ rfl rfl (append_str_runs Try.prog 38 9 _ 5 Try.underlying38 Try.underlying9 info_u8 HV.out s HB.out.size (by rw [HX.out]; simp [bytes8_length]; omega)) ?_; rintro v2 w2 ⟨hv2, hg2⟩; have HV2 := Aside0.mk hv2; have HG2 := Aside0.mk hg2; clear hv2 hg2)
  go_ret
  exact ⟨v2, _, rfl, HV2.out, ⟨by rw [HX.out]⟩, HB.out.grown HG2.out HB.out.size HV.out.base_⟩

set_option maxHeartbeats 800000 in
theorem refNum (A0 : Option Addr) (c0 : Nat) (l0 : List Int) (n : Int) (w : World) (hr0 : Kd.C (Kd.int .u8) w A0 l0.length l0) (hl : l0.length ≤ 100000000) :
    Calls Try.prog 33 #[.slice A0 l0.length c0, .int .i64 n] w fun e w' => ∃ v X, e = .returned v ∧ Own (Kd.int .u8) 5 w' w.heap.size v X ∧ Aside0 (X = l0 ++ bytes8 n 8) ∧ Below w.heap.size w w' := by
  have HR0 := Aside0.mk hr0
  clear hr0
  go_enter Try.func33, Try.ntmps33
  go_wp2_with (at_builtin; refine wpList_append_runs rfl _ _ _ _ rfl _ _ rfl rfl (append_own_runs Try.prog (flat_int .u8) 38 _ _ 1 Try.underlying38 info_u8 rfl (by decide) (Own.nil (Kd.int .u8) 5 w w.heap.size) A0 l0.length c0 rfl HR0.out (Nat.le_refl _) (by simp; omega) (by simp; omega)) ?_; rintro v1 w1 ⟨hv1, hg1⟩; have HV1 := Aside0.mk hv1; have HG1 := Aside0.mk hg1; clear hv1 hg1)
  go_loopg [5, 6] 8 (fun kq v5 v6 w' => ∃ k : Nat, k + kq = 8 ∧ v6 = .int .i64 (7 - (k : Int)) ∧ Aside0 (Own (Kd.int .u8) 5 w' w.heap.size v5 (l0 ++ bytes8 n k)) ∧ Aside0 (Below w.heap.size w w'))
  case atStart => exact ⟨0, rfl, rfl, ⟨by simpa [bytes8] using HV1.out⟩, ⟨(Below.refl w.heap.size w).grown HG1.out (Nat.le_refl _) (fun k hk => by simp [Value.ownBlock] at hk)⟩⟩
  case round =>
    obtain ⟨k, hk, rfl, HV, HB⟩ := hrel
    by_cases hlt : k < 8
    · have HBw : w.heap.size ≤ wr.heap.size := HB.out.size
      go_wp2_with (at_builtin; refine wpList_append_runs rfl _ _ _ _ rfl _ _ rfl rfl (append_one_runs Try.prog (flat_int .u8) 38 _ _ 1 Try.underlying38 info_u8 rfl (by decide) (x := byteN n k) (cs := [.int .u8 (byteN n k)]) HV.out rfl HBw (by simp [bytes8_length]; omega) (by simp [bytes8_length]; omega) 5 _ rfl _ rfl) ?_; rintro v4 w4 ⟨hv4, hg4⟩; have HV4 := Aside0.mk hv4; have HG4 := Aside0.mk hg4; clear hv4 hg4)
      go_roundg (7 - k)
      case measure => omega
      case rel => exact ⟨k + 1, by omega, by go_num, ⟨by rw [bytes8_succ, ← List.append_assoc]; exact HV4.out⟩, ⟨(HB.out.alloc HB.out.size _).grown HG4.out (by simpa using Nat.le_succ_of_le HB.out.size) HV.out.base_⟩⟩
    · go_wp2_with fail
      obtain rfl : k = 8 := by omega
      go_ret
      exact ⟨_, _, rfl, HV.out, ⟨rfl⟩, HB.out⟩

set_option maxHeartbeats 800000 in
theorem refText (A0 : Option Addr) (c0 : Nat) (l0 : List Int) (s : ByteArray) (w : World) (hr0 : Kd.C (Kd.int .u8) w A0 l0.length l0) (hl : l0.length ≤ 100000000) (hs : s.size ≤ 100000000) :
    Calls Try.prog 34 #[.slice A0 l0.length c0, .string s] w fun e w' => ∃ v X, e = .returned v ∧ Own (Kd.int .u8) 5 w' w.heap.size v X ∧ Aside0 (X = l0 ++ bytes8 s.size 8 ++ bytesOf s) ∧ Below w.heap.size w w' := by
  have HR0 := Aside0.mk hr0
  clear hr0
  go_enter Try.func34, Try.ntmps34
  go_wp2_with fail
  refine (refNum A0 c0 l0 _ w HR0.out hl).mono ?_
  rintro e w1 ⟨v, X, rfl, hv, HX, hb⟩
  have HV := Aside0.mk hv
  have HB := Aside0.mk hb
  clear hv hb
  go_wp2_with (at_builtin; refine wpList_append_runs rfl _ _ _ _ rfl _ _ rfl rfl (append_str_runs Try.prog 38 9 _ 5 Try.underlying38 Try.underlying9 info_u8 HV.out s HB.out.size (by rw [HX.out]; simp [bytes8_length]; omega)) ?_; rintro v2 w2 ⟨hv2, hg2⟩; have HV2 := Aside0.mk hv2; have HG2 := Aside0.mk hg2; clear hv2 hg2)
  go_ret
  exact ⟨v2, _, rfl, HV2.out, ⟨by rw [HX.out]⟩, HB.out.grown HG2.out HB.out.size HV.out.base_⟩
end Go.Proofs.Ytocooepdibgelaa.K
