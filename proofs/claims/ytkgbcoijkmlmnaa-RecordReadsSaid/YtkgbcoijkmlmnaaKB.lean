/- What the functions on bytes come to: numbers and texts laid and read, lists held against one another, lent, kept, written over. -/
import Derived.Test.YtkgbcoijkmlmnaaKS
import Derived.Deep.LoopGhost
import Derived.Deep.QuietTactic
import Derived.BigQuiet
set_option linter.unusedVariables false
set_option linter.unusedSimpArgs false
set_option maxRecDepth 100000
namespace Go.Proofs.Ytkgbcoijkmlmnaa.K
open Go.RowKit Go.Proofs.YtkgbcoijkmlmnaaW.PrintWords Go.Proofs.YtkgbcoijkmlmnaaW.PrintLast Go.Proofs.YtkgbcoijkmlmnaaW.PrintMore Go.Proofs.Ytkgbcoijkmlmnaa.U Go.Proofs.Ytkgbcoijkmlmnaa.T

set_option maxHeartbeats 800000 in
theorem readNum_ok (A0 : Option Addr) (c0 : Nat) (l0 : List Int) (at_ : Int) (w : World) (hr0 : Kd.C (Kd.int .u8) w A0 l0.length l0) (hc0 : l0.length ≤ c0) (h0 : 0 ≤ at_) (h1 : at_ + 8 ≤ l0.length) :
    Calls Try.prog 78 #[.slice A0 l0.length c0, .int .i64 at_] w fun e w' => e = .returned (.tuple #[.int .i64 (dec8 ((l0.drop at_.toNat).take 8)), .int .i64 (at_ + 8), .bool true]) ∧ Below w.heap.size w w' := by
  obtain ⟨p, rfl⟩ := Int.eq_ofNat_of_zero_le h0
  rw [Int.toNat_natCast]
  have hm0 := Kd.C_max hr0
  obtain ⟨ad, rfl, hcells⟩ := reads_cells hr0 (by omega)
  have HC := Aside0.mk hcells
  have hc1 : (l0.length : Int) ≤ c0 := by omega
  clear hr0 hcells h0
  go_enter Try.func78, Try.ntmps78
  go_wp2_with fail
  go_loopg [7, 31] 8 (fun kq v7 v31 w' => ∃ (k : Nat) (n : Int), k + kq = 8 ∧ v31 = .int .i64 k ∧ v7 = .int .u64 n ∧ Aside0 (n = ((l0.drop p).take k).foldl accB 0) ∧ Drawn0 w w')
  case atStart => exact ⟨0, 0, by omega, rfl, rfl, ⟨rfl⟩, Drawn0.refl _⟩
  case round =>
    obtain ⟨k, n, hk, rfl, rfl, HT, ⟨m1, rfl⟩⟩ := hrel
    by_cases hlt : k < 8
    · obtain ⟨x, hx⟩ : ∃ x, x = l0[p + k]'(by omega) := ⟨_, rfl⟩
      have hcell : w.cell? ((ad.add p).add k) = some (.int .u8 x) := by rw [hx]; exact cut_cell HC.out p k (by omega)
      have HX := Aside0.mk hx
      clear hx
      go_wp2_with fail
      go_roundg (7 - k)
      case measure => omega
      case rel => exact ⟨k + 1, accB n x, by omega, by go_num, rfl, ⟨by rw [take_one_more _ _ _ (by omega), List.foldl_append, ← HT.out, ← HX.out]; rfl⟩, Drawn0.step (Drawn0.refl _) m1⟩
    · obtain rfl : k = 8 := by omega
      go_wp2_with fail
      go_ret3
      exact ⟨by rw [dec8, ← HT.out]; rfl, (Drawn0.step (Drawn0.refl w) m1).below⟩
set_option maxHeartbeats 800000 in
theorem readNum_no (A0 : Option Addr) (c0 : Nat) (l0 : List Int) (at_ : Int) (w : World) (hr0 : Kd.C (Kd.int .u8) w A0 l0.length l0) (hc0 : l0.length ≤ c0) (h1 : at_ < 0 ∨ (l0.length : Int) < at_ + 8) (h2 : at_ ≤ 9223372036854775807) :
    Calls Try.prog 78 #[.slice A0 l0.length c0, .int .i64 at_] w fun e w' => e = .returned (.tuple #[.int .i64 0, .int .i64 0, .bool false]) ∧ Below w.heap.size w w' := by
  have hm0 := Kd.C_max hr0
  have HR0 := Aside0.mk hr0
  clear hr0
  by_cases h3 : at_ < 0
  · clear h1
    go_enter Try.func78, Try.ntmps78
    go_wp2_with fail
    go_ret3
    exact ⟨rfl, Below.refl _ _⟩
  · have h4 : (l0.length : Int) < at_ + 8 := by omega
    clear h1
    by_cases h5 : (l0.length : Int) < at_
    · go_enter Try.func78, Try.ntmps78
      go_wp2_with fail
      go_ret3
      exact ⟨rfl, Below.refl _ _⟩
    · go_enter Try.func78, Try.ntmps78
      go_wp2_with fail
      go_ret3
      exact ⟨rfl, Below.refl _ _⟩

set_option maxHeartbeats 800000 in
theorem refReadNum_ok (A0 : Option Addr) (c0 : Nat) (l0 : List Int) (at_ : Int) (w : World) (hr0 : Kd.C (Kd.int .u8) w A0 l0.length l0) (hc0 : l0.length ≤ c0) (h0 : 0 ≤ at_) (h1 : at_ + 8 ≤ l0.length) :
    Calls Try.prog 82 #[.slice A0 l0.length c0, .int .i64 at_] w fun e w' => e = .returned (.tuple #[.int .i64 (dec8 ((l0.drop at_.toNat).take 8)), .int .i64 (at_ + 8), .bool true]) ∧ Below w.heap.size w w' := by
  obtain ⟨p, rfl⟩ := Int.eq_ofNat_of_zero_le h0
  rw [Int.toNat_natCast]
  have hm0 := Kd.C_max hr0
  obtain ⟨ad, rfl, hcells⟩ := reads_cells hr0 (by omega)
  have HC := Aside0.mk hcells
  have hc1 : (l0.length : Int) ≤ c0 := by omega
  clear hr0 hcells h0
  go_enter Try.func82, Try.ntmps82
  go_wp2_with fail
  go_loopg [7, 8] 8 (fun kq v7 v31 w' => ∃ (k : Nat) (n : Int), k + kq = 8 ∧ v31 = .int .i64 k ∧ v7 = .int .u64 n ∧ Aside0 (n = ((l0.drop p).take k).foldl accB 0) ∧ Drawn0 w w')
  case atStart => exact ⟨0, 0, by omega, rfl, rfl, ⟨rfl⟩, Drawn0.refl _⟩
  case round =>
    obtain ⟨k, n, hk, rfl, rfl, HT, ⟨m1, rfl⟩⟩ := hrel
    by_cases hlt : k < 8
    · obtain ⟨x, hx⟩ : ∃ x, x = l0[p + k]'(by omega) := ⟨_, rfl⟩
      have hcell : w.cell? (ad.add (p + k)) = some (.int .u8 x) := by rw [hx]; exact HC.out _ _ (nums_at _ _ _ (by omega))
      have HX := Aside0.mk hx
      clear hx
      go_wp2_with fail
      go_roundg (7 - k)
      case measure => omega
      case rel => exact ⟨k + 1, accB n x, by omega, by go_num, rfl, ⟨by rw [take_one_more _ _ _ (by omega), List.foldl_append, ← HT.out, ← HX.out]; rfl⟩, Drawn0.step (Drawn0.refl _) m1⟩
    · obtain rfl : k = 8 := by omega
      go_wp2_with fail
      go_ret3
      exact ⟨by rw [dec8, ← HT.out]; rfl, (Drawn0.step (Drawn0.refl w) m1).below⟩
set_option maxHeartbeats 800000 in
theorem refReadNum_no (A0 : Option Addr) (c0 : Nat) (l0 : List Int) (at_ : Int) (w : World) (hr0 : Kd.C (Kd.int .u8) w A0 l0.length l0) (hc0 : l0.length ≤ c0) (h1 : at_ < 0 ∨ (l0.length : Int) < at_ + 8) (h2 : at_ ≤ 9223372036854775807) :
    Calls Try.prog 82 #[.slice A0 l0.length c0, .int .i64 at_] w fun e w' => e = .returned (.tuple #[.int .i64 0, .int .i64 0, .bool false]) ∧ Below w.heap.size w w' := by
  have hm0 := Kd.C_max hr0
  have HR0 := Aside0.mk hr0
  clear hr0
  by_cases h3 : at_ < 0
  · clear h1
    go_enter Try.func82, Try.ntmps82
    go_wp2_with fail
    go_ret3
    exact ⟨rfl, Below.refl _ _⟩
  · have h4 : (l0.length : Int) < at_ + 8 := by omega
    clear h1
    by_cases h5 : (l0.length : Int) < at_
    · go_enter Try.func82, Try.ntmps82
      go_wp2_with fail
      go_ret3
      exact ⟨rfl, Below.refl _ _⟩
    · go_enter Try.func82, Try.ntmps82
      go_wp2_with fail
      go_ret3
      exact ⟨rfl, Below.refl _ _⟩

set_option maxHeartbeats 800000 in
theorem num (A0 : Option Addr) (c0 : Nat) (l0 : List Int) (n : Int) (w : World) (hr0 : Kd.C (Kd.int .u8) w A0 l0.length l0) (hl : l0.length ≤ 100000000) :
    Calls Try.prog 89 #[.slice A0 l0.length c0, .int .i64 n] w fun e w' => ∃ v X, e = .returned v ∧ Own (Kd.int .u8) 5 w' w.heap.size v X ∧ Aside0 (X = l0 ++ bytes8 n 8) ∧ Below w.heap.size w w' := by
  have HR0 := Aside0.mk hr0
  clear hr0
  go_enter Try.func89, Try.ntmps89
  go_wp2_with fail
  refine upon_runs (make_runs Try.prog w 52 5 _ 1 1 Try.underlying52 info_u8 rfl (by omega) .i64 .i64 _ _ l0.length (l0.length + 8) (by omega) (by omega) (by omega) (by omega) (by omega)) ?_
  rintro _ w1 ⟨rfl, hw1⟩
  have HB : Below w.heap.size w w1 := by rw [hw1]; exact (Below.refl _ _).alloc (Nat.le_refl _) _
  have HG : w1.heap[w.heap.size]? = some (.cells (List.replicate (l0.length + 8) (Value.int .u8 0)).toArray 5 (0, 0)) := by rw [hw1, zcells_one _ _ rfl]; exact alloc_at w _
  have HR1 := Kd.C_below HR0.out HB
  clear hw1
  have HB1 := Aside0.mk HB
  have HG1 := Aside0.mk HG
  have HRa := Aside0.mk HR1
  clear HB HG HR1
  go_wp2_with fail
  refine upon_runs (copy_runs w1 _ w.heap.size _ _ A0 c0 l0 _ 5 _ rfl HG1.out HRa.out (by omega) (by simp)) ?_
  rintro _ w2 ⟨rfl, hg2, hgr2⟩
  have HB2 := Aside0.mk (HB1.out.grown hgr2 HB1.out.size (fun k hk => by cases hk; exact Nat.le_refl _))
  have HG2 := Aside0.mk hg2
  clear hg2 hgr2 HG1 HRa HB1
  go_wp2_with fail
  go_loopg [5, 16] 8 (fun kq v5 v16 w' => ∃ k : Nat, k + kq = 8 ∧ v5 = .slice (some ⟨w.heap.size, 0, none⟩) (l0.length + k) (l0.length + 8) ∧ v16 = .int .i64 k ∧
    Aside0 (w'.heap[w.heap.size]? = some (.cells (nums .u8 (l0 ++ bytes8 n k) ++ List.replicate (8 - k) (Value.int .u8 0)).toArray 5 (0, 0))) ∧ Aside0 (Below w.heap.size w w'))
  case atStart => exact ⟨0, rfl, rfl, rfl, ⟨by rw [HG2.out]; simp [bytes8]⟩, HB2⟩
  case round =>
    obtain ⟨k, hk, rfl, rfl, HG, HB⟩ := hrel
    by_cases hlt : k < 8
    · have HBw : w.heap.size < wr.heap.size := blk_lt' HG.out
      go_wp2_with (at_builtin; refine wpList_append_runs rfl _ _ _ _ rfl _ _ rfl rfl (append_room_runs Try.prog _ 52 _ 5 1 1 _ Try.underlying52 info_u8 _ w.heap.size (l0.length + k) (l0.length + 8) (nums .u8 (l0 ++ bytes8 n k) ++ List.replicate (8 - k) (Value.int .u8 0)) rfl ?c1 _ 1 1 [.int .u8 (byteN n k)] rfl ?c2 ?c3 (by omega) ?c4) ?_; rotate_right; rintro _ w4 ⟨rfl, hg4, hgr4⟩; have HG4 := Aside0.mk hg4; have HR4 := Aside0.mk hgr4; clear hg4 hgr4)
      case c1 => exact alloc_keeps HG.out _
      case c2 => rw [fold_byteN]; exact cells_new _ [_] _
      case c3 => intro u hu; obtain rfl := List.mem_singleton.1 hu; rfl
      case c4 => simp [nums_length, bytes8_length]; omega
      go_roundg (7 - k)
      case measure => omega
      case rel =>
        refine ⟨k + 1, by omega, rfl, by go_num, ⟨?_⟩, ⟨?_⟩⟩
        · rw [HG4.out, bytes8_succ, show 8 - k = (8 - (k + 1)) + 1 from by omega]
          congr 2
          rw [show (l0.length + k) * 1 = (nums .u8 (l0 ++ bytes8 n k)).length from by simp [nums_length, bytes8_length], List.take_left, List.length_singleton, replicate_drop1 _ _ _ _ rfl]
          simp [nums]
        · exact (HB.out.alloc HB.out.size _).grown HR4.out (by simpa using Nat.le_succ_of_le HB.out.size) (fun j hj => by cases hj; exact Nat.le_refl _)
    · go_wp2_with fail
      obtain rfl : k = 8 := by omega
      go_ret
      refine ⟨.slice (some ⟨w.heap.size, 0, none⟩) (l0.length + 8) (l0.length + 8), _, rfl, ?_, ⟨rfl⟩, HB.out⟩
      exact own_nums HG.out (Nat.le_refl _) (by simp [bytes8_length]) (Nat.le_refl _) (by omega) (by simp [nums_length, bytes8_length]) (by simp [nums]; exact List.take_of_length_le (by simp [bytes8_length]))

set_option maxHeartbeats 800000 in
theorem text (A0 : Option Addr) (c0 : Nat) (l0 : List Int) (s : ByteArray) (w : World) (hr0 : Kd.C (Kd.int .u8) w A0 l0.length l0) (hl : l0.length ≤ 100000000) (hs : s.size ≤ 100000000) :
    Calls Try.prog 62 #[.slice A0 l0.length c0, .string s] w fun e w' => ∃ v X, e = .returned v ∧ Own (Kd.int .u8) 5 w' w.heap.size v X ∧ Aside0 (X = l0 ++ bytes8 s.size 8 ++ bytesOf s) ∧ Below w.heap.size w w' := by
  have HR0 := Aside0.mk hr0
  clear hr0
  go_enter Try.func62, Try.ntmps62
  go_wp2_with fail
  refine (num A0 c0 l0 _ w HR0.out hl).mono ?_
  rintro e w1 ⟨v, X, rfl, hv, HX, hb⟩
  have HV := Aside0.mk hv
  have HB := Aside0.mk hb
  clear hv hb
  go_wp2_with (at_builtin; refine wpList_append_runs rfl _ _ _ _ rfl _ _ rfl rfl (append_str_runs Try.prog 52 9 _ 5 Try.underlying52 Try.underlying9 info_u8 HV.out s HB.out.size (by rw [HX.out]; simp [bytes8_length]; omega)) ?_; rintro v2 w2 ⟨hv2, hg2⟩; have HV2 := Aside0.mk hv2; have HG2 := Aside0.mk hg2; clear hv2 hg2)
  go_ret
  exact ⟨v2, _, rfl, HV2.out, ⟨by rw [HX.out]⟩, HB.out.grown HG2.out HB.out.size HV.out.base_⟩

set_option maxHeartbeats 800000 in
theorem refNum (A0 : Option Addr) (c0 : Nat) (l0 : List Int) (n : Int) (w : World) (hr0 : Kd.C (Kd.int .u8) w A0 l0.length l0) (hl : l0.length ≤ 100000000) :
    Calls Try.prog 65 #[.slice A0 l0.length c0, .int .i64 n] w fun e w' => ∃ v X, e = .returned v ∧ Own (Kd.int .u8) 5 w' w.heap.size v X ∧ Aside0 (X = l0 ++ bytes8 n 8) ∧ Below w.heap.size w w' := by
  have HR0 := Aside0.mk hr0
  clear hr0
  go_enter Try.func65, Try.ntmps65
  go_wp2_with (at_builtin; refine wpList_append_runs rfl _ _ _ _ rfl _ _ rfl rfl (append_own_runs Try.prog (flat_int .u8) 52 _ _ 1 Try.underlying52 info_u8 rfl (by decide) (Own.nil (Kd.int .u8) 5 w w.heap.size) A0 l0.length c0 rfl HR0.out (Nat.le_refl _) (by simp; omega) (by simp; omega)) ?_; rintro v1 w1 ⟨hv1, hg1⟩; have HV1 := Aside0.mk hv1; have HG1 := Aside0.mk hg1; clear hv1 hg1)
  go_loopg [5, 6] 8 (fun kq v5 v6 w' => ∃ k : Nat, k + kq = 8 ∧ v6 = .int .i64 (7 - (k : Int)) ∧ Aside0 (Own (Kd.int .u8) 5 w' w.heap.size v5 (l0 ++ bytes8 n k)) ∧ Aside0 (Below w.heap.size w w'))
  case atStart => exact ⟨0, rfl, rfl, ⟨by simpa [bytes8] using HV1.out⟩, ⟨(Below.refl w.heap.size w).grown HG1.out (Nat.le_refl _) (fun k hk => by simp [Value.ownBlock] at hk)⟩⟩
  case round =>
    obtain ⟨k, hk, rfl, HV, HB⟩ := hrel
    by_cases hlt : k < 8
    · have HBw : w.heap.size ≤ wr.heap.size := HB.out.size
      go_wp2_with (at_builtin; refine wpList_append_runs rfl _ _ _ _ rfl _ _ rfl rfl (append_one_runs Try.prog (flat_int .u8) 52 _ _ 1 Try.underlying52 info_u8 rfl (by decide) (x := byteN n k) (cs := [.int .u8 (byteN n k)]) HV.out rfl HBw (by simp [bytes8_length]; omega) (by simp [bytes8_length]; omega) 5 _ rfl _ rfl) ?_; rintro v4 w4 ⟨hv4, hg4⟩; have HV4 := Aside0.mk hv4; have HG4 := Aside0.mk hg4; clear hv4 hg4)
      go_roundg (7 - k)
      case measure => omega
      case rel => exact ⟨k + 1, by omega, by go_num, ⟨by rw [bytes8_succ, ← List.append_assoc]; exact HV4.out⟩, ⟨(HB.out.alloc HB.out.size _).grown HG4.out (by simpa using Nat.le_succ_of_le HB.out.size) HV.out.base_⟩⟩
    · go_wp2_with fail
      obtain rfl : k = 8 := by omega
      go_ret
      exact ⟨_, _, rfl, HV.out, ⟨rfl⟩, HB.out⟩

set_option maxHeartbeats 800000 in
theorem refText (A0 : Option Addr) (c0 : Nat) (l0 : List Int) (s : ByteArray) (w : World) (hr0 : Kd.C (Kd.int .u8) w A0 l0.length l0) (hl : l0.length ≤ 100000000) (hs : s.size ≤ 100000000) :
    Calls Try.prog 90 #[.slice A0 l0.length c0, .string s] w fun e w' => ∃ v X, e = .returned v ∧ Own (Kd.int .u8) 5 w' w.heap.size v X ∧ Aside0 (X = l0 ++ bytes8 s.size 8 ++ bytesOf s) ∧ Below w.heap.size w w' := by
  have HR0 := Aside0.mk hr0
  clear hr0
  go_enter Try.func90, Try.ntmps90
  go_wp2_with fail
  refine (refNum A0 c0 l0 _ w HR0.out hl).mono ?_
  rintro e w1 ⟨v, X, rfl, hv, HX, hb⟩
  have HV := Aside0.mk hv
  have HB := Aside0.mk hb
  clear hv hb
  go_wp2_with (at_builtin; refine wpList_append_runs rfl _ _ _ _ rfl _ _ rfl rfl (append_str_runs Try.prog 52 9 _ 5 Try.underlying52 Try.underlying9 info_u8 HV.out s HB.out.size (by rw [HX.out]; simp [bytes8_length]; omega)) ?_; rintro v2 w2 ⟨hv2, hg2⟩; have HV2 := Aside0.mk hv2; have HG2 := Aside0.mk hg2; clear hv2 hg2)
  go_ret
  exact ⟨v2, _, rfl, HV2.out, ⟨by rw [HX.out]⟩, HB.out.grown HG2.out HB.out.size HV.out.base_⟩
end Go.Proofs.Ytkgbcoijkmlmnaa.K
