/- A part's pairs; the statements of chapter 8. -/
import Derived.Test.YtocooepdibgelaaP
import Derived.Test.YtocooepdibgelaaKQ2
set_option linter.unusedVariables false
set_option linter.unusedSimpArgs false
namespace Go.Proofs.Ytocooepdibgelaa.K
open Go.RowKit Go.Proofs.YtocooepdibgelaaW.PrintWords Go.Proofs.YtocooepdibgelaaW.PrintLast Go.Proofs.YtocooepdibgelaaW.PrintMore Go.Proofs.Ytocooepdibgelaa.U Go.Proofs.Ytocooepdibgelaa.T
attribute [local go_sem high] eqA_pair

def onlyL (l : List PairD) (parts p : Int) : List PairD := l.filter (fun x => partN x.key parts == p)
theorem onlyL_length (l : List PairD) (parts p : Int) : (onlyL l parts p).length ≤ l.length := List.length_filter_le _ _
theorem onlyL_snoc (l : List PairD) (k : Nat) (h : k < l.length) (parts p : Int) : onlyL (l.take (k + 1)) parts p = onlyL (l.take k) parts p ++ (if partN l[k].key parts == p then [l[k]] else []) := by
  unfold onlyL
  rw [List.take_succ_eq_append_getElem h, List.filter_append]
  congr 1
  simp only [List.filter_cons, List.filter_nil]

theorem two_and' (w w1 w2 : World) (h : Below w.heap.size w w1) (k : Below w1.heap.size w1 w2) : Below w.heap.size w w2 := below_then h h.size k
set_option maxHeartbeats 1600000 in
theorem only (A0 : Option Addr) (c0 : Nat) (l0 : List PairD) (parts p : Int) (w : World) (hr0 : Kd.C kPair w A0 l0.length l0) (hg0 : ∀ s ∈ l0, GPair s) (hl : l0.length ≤ 100000000) (hp : parts ≤ 9223372036854775807) :
    Calls Try.prog 18 #[.slice A0 l0.length c0, .int .i64 parts, .int .i64 p] w fun e w' => ∃ v X, e = .returned v ∧ Own kPair 37 w' w.heap.size v X ∧ Aside0 (X = onlyL l0 parts p) ∧ Below w.heap.size w w' := by
  have HR0 := Aside0.mk hr0
  have HG0 := Aside0.mk hg0
  clear hr0 hg0
  have hu := Try.underlying37
  go_enter Try.func18, Try.ntmps18
  go_wp2_with fail
  go_loopg [7, 12] l0.length (fun kq v7 v12 w' => ∃ (k : Nat) (X : List PairD), k + kq = l0.length ∧ v12 = .int .i64 k ∧ Aside0 (X = onlyL (l0.take k) parts p) ∧ Aside0 (Own kPair 37 w' w.heap.size v7 X) ∧ Aside0 (Below w.heap.size w w'))
  case atStart => exact ⟨0, [], by omega, rfl, ⟨rfl⟩, ⟨Own.nil _ _ _ _⟩, ⟨Below.refl _ _⟩⟩
  case round =>
    obtain ⟨k, X, hk, rfl, HX, HV, HB⟩ := hrel
    by_cases hlt : k < l0.length
    · obtain ⟨ad, rfl, hx0, hx1⟩ := at_pair2 (Kd.C_below HR0.out HB.out) k hlt
      obtain ⟨s, hs⟩ : ∃ s, s = l0[k] := ⟨_, rfl⟩
      rw [← hs] at hx0 hx1
      have hsz : GPair s := by rw [hs]; exact HG0.out _ (List.getElem_mem _)
      obtain ⟨hsz1, hsz2⟩ := hsz
      have HS := Aside0.mk hs
      clear hs
      go_wp2_with fail
      refine (of_ s.key parts _ hsz1 hp).mono ?_
      rintro e w1 ⟨rfl, hb1⟩
      have hbk : w1.heap[wr.heap.size]? = some (.cells [Value.string s.key, .string s.val].toArray 37 (0, 0)) := (hb1.block _ (blk_lt' (alloc_at wr _))).trans (alloc_at wr _)
      have hy0 : w1.cell? ⟨wr.heap.size, 0, none⟩ = some (.string s.key) := cell_of_blk hbk
      have hy1 : w1.cell? ⟨wr.heap.size, 1, none⟩ = some (.string s.val) := cell_of_blk hbk
      have hba : Below wr.heap.size wr (wr.alloc (.cells #[.string s.key, .string s.val] 37)) := (Below.refl _ _).alloc (Nat.le_refl _) _
      have hbw : Below wr.heap.size wr w1 := below_then hba hba.size hb1
      have HB1 := Aside0.mk (two_and' _ _ _ HB.out hbw)
      have HV1 := Aside0.mk (HV.out.below hbw)
      clear hb1 hbk hba hbw hx0 hx1
      have hxl : X.length ≤ k := by
        rw [HX.out]
        refine Nat.le_trans (onlyL_length _ _ _) ?_
        rw [List.length_take]
        omega
      have hbase : w.heap.size ≤ w1.heap.size := HB1.out.size
      obtain ⟨q, hq⟩ : ∃ q, q = partN s.key parts := ⟨_, rfl⟩
      have HQ := Aside0.mk hq
      rw [← hq]
      clear hq
      by_cases hqp : q = p
      · have hqb : (q == p) = true := by simpa using hqp
        have HX1 : Aside0 (X ++ [s] = onlyL (l0.take (k + 1)) parts p) := ⟨by rw [onlyL_snoc _ _ hlt, ← HS.out, ← HQ.out, if_pos hqb, HX.out]⟩
        clear hqp
        go_wp2_with (at_builtin; refine wpList_append_runs rfl _ _ _ _ rfl _ _ rfl rfl (append_one_runs Try.prog flat_pair 22 _ _ 32 Try.underlying22 info_pair rfl (by decide) (x := s) (cs := [.string s.key, .string s.val]) HV1.out (kPair_mk _ _) hbase (by omega) (by omega) 37 _ rfl _ rfl) ?_; rintro v4 w4 ⟨hv4, hg4⟩; have HV4 := Aside0.mk hv4; have HG4 := Aside0.mk hg4; clear hv4 hg4)
        have hba4 := HB1.out.alloc hbase (.cells #[.string s.key, .string s.val] 37)
        have HB4 := Aside0.mk (hba4.grown HG4.out hba4.size (fun k hk => HV1.out.base_ k hk))
        clear hba4
        go_roundg (l0.length - (k + 1))
        case measure => omega
        case rel => exact ⟨k + 1, X ++ [s], by omega, by go_num, HX1, HV4, HB4⟩
      · have hqb : (q == p) = false := by simpa using hqp
        have HX1 : Aside0 (X = onlyL (l0.take (k + 1)) parts p) := ⟨by rw [onlyL_snoc _ _ hlt, ← HS.out, ← HQ.out, hqb, if_neg (by simp), HX.out, List.append_nil]⟩
        clear hqp
        go_wp2_with fail
        go_roundg (l0.length - (k + 1))
        case measure => omega
        case rel => exact ⟨k + 1, X, by omega, by go_num, HX1, HV1, HB1⟩
    · obtain rfl : k = l0.length := by omega
      go_wp2_with fail
      go_ret
      exact ⟨_, X, rfl, HV.out, ⟨by rw [HX.out, List.take_length]⟩, HB.out⟩
set_option maxHeartbeats 1600000 in
theorem refOnly (A0 : Option Addr) (c0 : Nat) (l0 : List PairD) (parts p : Int) (w : World) (hr0 : Kd.C kPair w A0 l0.length l0) (hg0 : ∀ s ∈ l0, GPair s) (hl : l0.length ≤ 100000000) (hp : parts ≤ 9223372036854775807) :
    Calls Try.prog 24 #[.slice A0 l0.length c0, .int .i64 parts, .int .i64 p] w fun e w' => ∃ v X, e = .returned v ∧ Own kPair 37 w' w.heap.size v X ∧ Aside0 (X = onlyL l0 parts p) ∧ Below w.heap.size w w' := by
  have HR0 := Aside0.mk hr0
  have HG0 := Aside0.mk hg0
  clear hr0 hg0
  have hu := Try.underlying37
  go_enter Try.func24, Try.ntmps24
  go_wp2_with fail
  go_loopg [7, 8] l0.length (fun kq v7 v8 w' => ∃ (k : Nat) (X : List PairD), k + kq = l0.length ∧ v8 = .int .i64 k ∧ Aside0 (X = onlyL (l0.take k) parts p) ∧ Aside0 (Own kPair 37 w' w.heap.size v7 X) ∧ Aside0 (Below w.heap.size w w'))
  case atStart => exact ⟨0, [], by omega, rfl, ⟨rfl⟩, ⟨Own.nil _ _ _ _⟩, ⟨Below.refl _ _⟩⟩
  case round =>
    obtain ⟨k, X, hk, rfl, HX, HV, HB⟩ := hrel
    by_cases hlt : k < l0.length
    · obtain ⟨ad, rfl, hx0, hx1⟩ := at_pair2 (Kd.C_below HR0.out HB.out) k hlt
      obtain ⟨s, hs⟩ : ∃ s, s = l0[k] := ⟨_, rfl⟩
      rw [← hs] at hx0 hx1
      have hsz : GPair s := by rw [hs]; exact HG0.out _ (List.getElem_mem _)
      obtain ⟨hsz1, hsz2⟩ := hsz
      have HS := Aside0.mk hs
      clear hs
      go_wp2_with fail
      refine (refOf s.key parts _ hsz1 hp).mono ?_
      rintro e w1 ⟨rfl, hb1⟩
      have hy0 := (hb1.cell (World.block_lt_of_cell? wr _ hx0)).trans hx0
      have hy1 := (hb1.cell (World.block_lt_of_cell? wr _ hx1)).trans hx1
      have HB1 := Aside0.mk (two_and' _ _ _ HB.out hb1)
      have HV1 := Aside0.mk (HV.out.below hb1)
      clear hb1 hx0 hx1
      have hxl : X.length ≤ k := by
        rw [HX.out]
        refine Nat.le_trans (onlyL_length _ _ _) ?_
        rw [List.length_take]
        omega
      have hbase : w.heap.size ≤ w1.heap.size := HB1.out.size
      obtain ⟨q, hq⟩ : ∃ q, q = partN s.key parts := ⟨_, rfl⟩
      have HQ := Aside0.mk hq
      rw [← hq]
      clear hq
      by_cases hqp : q = p
      · have hqb : (q == p) = true := by simpa using hqp
        have HX1 : Aside0 (X ++ [s] = onlyL (l0.take (k + 1)) parts p) := ⟨by rw [onlyL_snoc _ _ hlt, ← HS.out, ← HQ.out, if_pos hqb, HX.out]⟩
        clear hqp
        go_wp2_with (at_builtin; refine wpList_append_runs rfl _ _ _ _ rfl _ _ rfl rfl (append_one_runs Try.prog flat_pair 22 _ _ 32 Try.underlying22 info_pair rfl (by decide) (x := s) (cs := [.string s.key, .string s.val]) HV1.out (kPair_mk _ _) hbase (by omega) (by omega) 37 _ rfl _ rfl) ?_; rintro v4 w4 ⟨hv4, hg4⟩; have HV4 := Aside0.mk hv4; have HG4 := Aside0.mk hg4; clear hv4 hg4)
        have hba4 := HB1.out.alloc hbase (.cells #[.string s.key, .string s.val] 37)
        have HB4 := Aside0.mk (hba4.grown HG4.out hba4.size (fun k hk => HV1.out.base_ k hk))
        clear hba4
        go_roundg (l0.length - (k + 1))
        case measure => omega
        case rel => exact ⟨k + 1, X ++ [s], by omega, by go_num, HX1, HV4, HB4⟩
      · have hqb : (q == p) = false := by simpa using hqp
        have HX1 : Aside0 (X = onlyL (l0.take (k + 1)) parts p) := ⟨by rw [onlyL_snoc _ _ hlt, ← HS.out, ← HQ.out, hqb, if_neg (by simp), HX.out, List.append_nil]⟩
        clear hqp
        go_wp2_with fail
        go_roundg (l0.length - (k + 1))
        case measure => omega
        case rel => exact ⟨k + 1, X, by omega, by go_num, HX1, HV1, HB1⟩
    · obtain rfl : k = l0.length := by omega
      go_wp2_with fail
      go_ret
      exact ⟨_, X, rfl, HV.out, ⟨by rw [HX.out, List.take_length]⟩, HB.out⟩
end Go.Proofs.Ytocooepdibgelaa.K
