/- The statement CutWhole. -/
import Derived.Test.YtocooepdibgelaaC8
set_option linter.unusedVariables false
set_option linter.unusedSimpArgs false
namespace Go.Proofs.Ytocooepdibgelaa.K
open Go.RowKit Go.Proofs.YtocooepdibgelaaW.PrintWords Go.Proofs.YtocooepdibgelaaW.PrintLast Go.Proofs.YtocooepdibgelaaW.PrintMore Go.Proofs.Ytocooepdibgelaa.U Go.Proofs.Ytocooepdibgelaa.T
attribute [local go_sem high] eqA_pair
attribute [local go_sem] max2_int min2_int

theorem info_rows : (Try.prog.info? 22).map (fun i => (i.zero, i.size, i.bytes)) = some (some (.slice none 0 0), 1, 24) := by kernel_rfl
/-- The first k chunks. -/
def chunksL (l : List PairD) (size : Int) (k : Nat) : List (List PairD) := (List.range k).map (fun j => chunkL l size (j : Nat))
theorem chunksL_succ (l : List PairD) (size : Int) (k : Nat) : chunksL l size (k + 1) = chunksL l size k ++ [chunkL l size k] := by
  unfold chunksL
  rw [List.range_succ, List.map_append]
  rfl
theorem chunksL_length (l : List PairD) (size : Int) (k : Nat) : (chunksL l size k).length = k := by simp [chunksL]
theorem chunkL_in (l : List PairD) (s k : Nat) (h : (k : Int) < chunksN l.length s) : chunkL l s k = (l.drop (k * s)).take s := by
  unfold chunkL
  rw [if_neg (by omega)]
  have e : ((k : Int) * (s : Int)).toNat = k * s := by rw [← Int.natCast_mul, Int.toNat_natCast]
  rw [e, Int.toNat_natCast]
theorem chunksL_flat (l : List PairD) (s : Nat) (k : Nat) (h : (k : Int) ≤ chunksN l.length s) : (chunksL l s k).flatten = l.take (k * s) := by
  induction k with
  | zero => simp [chunksL]
  | succ k ih =>
    rw [chunksL_succ, List.flatten_append, ih (by omega), List.flatten_cons, List.flatten_nil, List.append_nil, chunkL_in l s k (by omega), ← List.take_add, Nat.succ_mul]
theorem chunkL_len (l : List PairD) (s k : Nat) (hs : 1 ≤ s) (n : Int) (hn : n = chunksN l.length s) (h : (k : Int) < n) :
    1 ≤ (chunkL l s k).length ∧ (chunkL l s k).length ≤ s ∧ ((k : Int) < n - 1 → (chunkL l s k).length = s) := by
  have h4 := chunksN_enough l.length s (by omega)
  rw [← hn] at h4
  rw [chunkL_in l s k (by rw [← hn]; exact h), List.length_take, List.length_drop]
  have h5 := h4.2 (by omega)
  have h6 : (k : Int) * s ≤ (n - 1) * s := Int.mul_le_mul_of_nonneg_right (by omega) (by omega)
  have h7 : ((k * s : Nat) : Int) = (k : Int) * s := Int.natCast_mul _ _
  refine ⟨by omega, by omega, fun h8 => ?_⟩
  have h9 : ((k : Int) + 1) * s ≤ (n - 1) * s := Int.mul_le_mul_of_nonneg_right (by omega) (by omega)
  rw [Int.add_mul, Int.one_mul] at h9
  omega

set_option maxRecDepth 100000 in
set_option maxHeartbeats 1600000 in
theorem cutWhole_walk (W : World) (A0 : Option Addr) (c0 : Nat) (l0 : List PairD) (hr0 : Kd.C kPair W A0 l0.length l0) (hc0 : l0.length ≤ c0) (hg0 : ∀ x ∈ l0, GPair x) (size : Int) (wsize : (Lit.int .i64 size).wf = true) :
    Calls Try.prog 12 #[.slice A0 l0.length c0, .int .i64 size] W fun e w' => e = .returned (.bool true) ∧ Below W.heap.size W w' := by
  have hm0 := Kd.C_max hr0
  have HR0 := Aside0.mk hr0
  have HG0 := Aside0.mk hg0
  clear hr0 hg0 wsize
  go_enter Try.func12, Try.ntmps12
  go_wp2_with fail
  refine (greatPairs A0 c0 l0 80 W HR0.out HG0.out).mono ?_
  rintro e w1 ⟨⟨r, rfl, hr⟩, hb1⟩
  cases r with
  | true =>
    go_wp2_with fail
    refine (awake10 _).mono ?_
    rintro e w6 ⟨rfl, hb6⟩
    have HB6 := Aside0.mk (two_andc _ _ _ hb1 hb6)
    clear hb1 hb6
    go_wp2_with fail
    go_ret
    exact ⟨rfl, HB6.out⟩
  | false =>
    have hl80 := (hr rfl).1
    have HB1 := Aside0.mk hb1
    clear hr hb1
    obtain ⟨s0, hs0⟩ : ∃ q, q = lowN size 20 := ⟨_, rfl⟩
    have rs : 0 ≤ s0 ∧ s0 < 20 := by rw [hs0]; exact lowN_range _ _ (by omega)
    have HS0 := Aside0.mk hs0
    obtain ⟨s, hs⟩ : ∃ s : Nat, 1 + s0 = (s : Int) := ⟨(1 + s0).toNat, by omega⟩
    have hs1 : 1 ≤ s := by omega
    have hs2 : s ≤ 20 := by omega
    have HS := Aside0.mk hs
    obtain ⟨rs0, rs1⟩ := rs
    obtain ⟨n, hn⟩ : ∃ n : Nat, (n : Int) = chunksN l0.length s := ⟨(chunksN l0.length s).toNat, by have := (chunksN_range (l0.length : Int) s (by omega)).1; omega⟩
    have hn80 : n ≤ 80 := by
      have : chunksN l0.length s ≤ l0.length := by
        unfold chunksN
        split
        · omega
        · have h1 : ((l0.length : Int) - 1) / s ≤ (l0.length : Int) - 1 := Int.ediv_le_self _ (by omega)
          omega
      omega
    have HN := Aside0.mk hn
    clear hs0 hs hn
    go_wp2_with fail
    refine (low size 20 _ (by omega) (by omega)).mono ?_
    rintro e w1' ⟨rfl, rfl⟩
    rw [← HS0.out]
    clear HS0
    go_wp2_with fail
    rw [HS.out]
    clear HS rs0 rs1
    refine (chunks l0.length s _ (by omega)).mono ?_
    rintro e w2 ⟨rfl, rfl⟩
    rw [← HN.out]
    go_wp2_with fail
    go_loopg [6, 7] n (fun kq v6 v7 w' => ∃ (k : Nat), k + kq = n ∧ v7 = .int .i64 k ∧ Aside0 (kRows.R 22 w' W.heap.size (fun _ => True) v6 (chunksL l0 s k)) ∧ Aside0 (Below W.heap.size W w'))
    case atStart => exact ⟨0, by omega, rfl, ⟨Kd.R_nil _ _ _ _ _⟩, HB1⟩
    case round =>
      clear HB1
      obtain ⟨k, hk, rfl, HV, HB⟩ := hrel
      by_cases hlt : k < n
      · go_wp2_with fail
        refine (chunk A0 c0 l0 s k wr (Kd.C_below HR0.out HB.out) hc0 (by omega) (by omega)).mono ?_
        rintro e w4 ⟨v4, X, rfl, hv4, HX, hb4⟩
        obtain ⟨A4, c4, rfl, hc4, _⟩ := hv4.reads
        have hxl := chunkL_len l0 s k hs1 n HN.out (by omega)
        rw [← HX.out] at hxl
        obtain ⟨hx1, hx2, hx3⟩ := hxl
        have hx0 : ((X.length : Int) == 0) = false := beq_eq_false_iff_ne.2 (by omega)
        have hx4 : ¬ (s : Int) < X.length := by omega
        have HV4 := Aside0.mk (Kd.R_below HV.out hb4)
        have HB4 := Aside0.mk (two_andc _ _ _ HB.out hb4)
        have HX4 := Aside0.mk hv4
        obtain ⟨Y, hY⟩ : ∃ Y, Y = chunksL l0 s k := ⟨_, rfl⟩
        rw [← hY] at HV4
        have hyl : Y.length = k := by rw [hY, chunksL_length]
        have hY1 : Y ++ [X] = chunksL l0 s (k + 1) := by rw [chunksL_succ, hY, HX.out]
        have HY1 := Aside0.mk hY1
        have hbase : W.heap.size ≤ w4.heap.size := HB4.out.size
        obtain ⟨Av, cv, rfl, hcv, _⟩ := Kd.R_reads HV4.out
        have HLT := Aside0.mk (Kd.R_lt HV.out)
        have hwr := HB.out.size
        have HOK : Aside0 (kRows.M w4 W.heap.size (fun b => some b ≠ (Value.slice Av Y.length cv).ownBlock) X [.slice A4 X.length c4]) := ⟨⟨_, rfl, Kd.R_lower (Kd.R_mono (Kd.R_bound hv4) (fun b hb e => by have := HLT.out b e.symm; have := hb.2.1; omega)) hwr⟩⟩
        have hx3' : (k : Int) < (n : Int) - 1 → (X.length : Int) = s := fun h => by have := hx3 h; omega
        have hyb : Y.length ≤ 80 := by omega
        have HYL := Aside0.mk hyl
        clear hv4 hb4 hY hY1 hx3 hcv hyl
        by_cases hlast : (k : Int) < (n : Int) - 1
        · have hxe : ((X.length : Int) != s) = false := by have := hx3' hlast; simpa using this
          clear hx3'
          go_wp2_with (at_builtin; refine Kd.R_append kRows (w0 := W) W.heap.size rfl _ _ 58 22 _ 24 rfl Try.underlying58 info_rows rfl (by decide) (by decide) (.slice Av Y.length cv) Y X [.slice A4 X.length c4] (fun _ => True) _ rfl rfl HOK.out (fun _ h => ⟨trivial, h⟩) (fun _ _ => trivial) HV4.out HB4.out hbase (by omega) ?_; intro v5 w5 hv5 hb5 hg5 hat5; have HV5 := Aside0.mk hv5; have HB5 := Aside0.mk hb5; clear hv5 hb5 hg5 hat5)
          rw [HY1.out] at HV5
          go_roundg (n - (k + 1))
          case measure => omega
          case rel => exact ⟨k + 1, by omega, by go_num, HV5, HB5⟩
        · clear hx3'
          go_wp2_with (at_builtin; refine Kd.R_append kRows (w0 := W) W.heap.size rfl _ _ 58 22 _ 24 rfl Try.underlying58 info_rows rfl (by decide) (by decide) (.slice Av Y.length cv) Y X [.slice A4 X.length c4] (fun _ => True) _ rfl rfl HOK.out (fun _ h => ⟨trivial, h⟩) (fun _ _ => trivial) HV4.out HB4.out hbase (by omega) ?_; intro v5 w5 hv5 hb5 hg5 hat5; have HV5 := Aside0.mk hv5; have HB5 := Aside0.mk hb5; clear hv5 hb5 hg5 hat5)
          rw [HY1.out] at HV5
          go_roundg (n - (k + 1))
          case measure => omega
          case rel => exact ⟨k + 1, by omega, by go_num, HV5, HB5⟩
      · obtain rfl : k = n := by omega
        obtain ⟨Y, hY⟩ : ∃ Y, Y = chunksL l0 s k := ⟨_, rfl⟩
        have hfl : Y.flatten = l0 := by
          have h4 := (chunksN_enough l0.length s (by omega)).1
          rw [← HN.out, ← Int.natCast_mul] at h4
          rw [hY, chunksL_flat l0 s k (by rw [← HN.out]; exact Int.le_refl _), List.take_of_length_le (by omega)]
        rw [← hY] at HV
        obtain ⟨Av, cv, rfl, hcv, hcr⟩ := Kd.R_reads HV.out
        have HCR := Aside0.mk hcr
        have HFL := Aside0.mk hfl
        have hc1 : chunkL l0 s k = [] := by unfold chunkL; rw [if_pos (.inr (by rw [← HN.out]; exact Int.le_refl _))]
        have hc2 : chunkL l0 s (-1) = [] := by unfold chunkL; rw [if_pos (.inl (by omega))]
        have hc3 : chunkL l0 0 0 = [] := by unfold chunkL chunksN; rw [if_pos (.inr (by rw [if_pos (.inr (by omega))]; exact Int.le_refl _))]
        have HC1 := Aside0.mk hc1
        have HC2 := Aside0.mk hc2
        have HC3 := Aside0.mk hc3
        clear hcr hfl hc1 hc2 hc3 hY hcv HV
        go_wp2_with fail
        refine (joinC Av cv Y _ HCR.out (by rw [HFL.out]; omega)).mono ?_
        rintro e w4 ⟨v4, X4, rfl, hv4, HX4, hb4⟩
        have hx4 : X4 = l0 := by rw [HX4.out, HFL.out]
        subst hx4
        obtain ⟨A4, c4, rfl, hc4, hr4⟩ := hv4.reads
        have HR4 := Aside0.mk hr4
        have HB4 := Aside0.mk (two_andc _ _ _ HB.out hb4)
        clear hv4 hb4 HX4 hc4 hr4
        go_wp2_with fail
        refine (samePairs _ _ _ _ _ _ w4 HR4.out (Kd.C_below HR0.out HB4.out) true (by simp)).mono ?_
        rintro e w5 ⟨rfl, hb5⟩
        have HB5 := Aside0.mk (two_andc _ _ _ HB4.out hb5)
        clear hb5
        go_wp2_with fail
        refine (chunk A0 c0 _ s k w5 (Kd.C_below HR0.out HB5.out) hc0 (by omega) (by omega)).mono ?_
        rintro e w6 ⟨v6, X6, rfl, hv6, HX6, hb6⟩
        obtain ⟨A6, c6, rfl, hc6, _⟩ := hv6.reads
        have hx6 : X6 = [] := by rw [HX6.out]; exact HC1.out
        have HB6 := Aside0.mk (two_andc _ _ _ HB5.out hb6)
        clear hv6 hb6 HX6 hc6
        subst hx6
        go_wp2_with fail
        refine (chunk A0 c0 _ s (-1) w6 (Kd.C_below HR0.out HB6.out) hc0 (by omega) (by omega)).mono ?_
        rintro e w7 ⟨v7, X7, rfl, hv7, HX7, hb7⟩
        obtain ⟨A7, c7, rfl, hc7, _⟩ := hv7.reads
        have hx7 : X7 = [] := by rw [HX7.out]; exact HC2.out
        have HB7 := Aside0.mk (two_andc _ _ _ HB6.out hb7)
        clear hv7 hb7 HX7 hc7
        subst hx7
        go_wp2_with fail
        refine (chunk A0 c0 _ 0 0 w7 (Kd.C_below HR0.out HB7.out) hc0 (by omega) (by omega)).mono ?_
        rintro e w8 ⟨v8, X8, rfl, hv8, HX8, hb8⟩
        obtain ⟨A8, c8, rfl, hc8, _⟩ := hv8.reads
        have hx8 : X8 = [] := by rw [HX8.out]; exact HC3.out
        have HB8 := Aside0.mk (two_andc _ _ _ HB7.out hb8)
        clear hv8 hb8 HX8 hc8
        subst hx8
        go_wp2_with fail
        refine (awake10 _).mono ?_
        rintro e w9 ⟨rfl, hb9⟩
        have HB9 := Aside0.mk (two_andc _ _ _ HB8.out hb9)
        clear hb9
        go_wp2_with fail
        go_ret
        exact ⟨rfl, HB9.out⟩
end Go.Proofs.Ytocooepdibgelaa.K
