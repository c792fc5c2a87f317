/- Acts of counters; the statements TallyNone and TallySums. -/
import Derived.Test.YtnnjfideeeampaaTA3
set_option linter.unusedVariables false
set_option linter.unusedSimpArgs false
namespace Go.Proofs.Ytnnjfideeeampaa.T
open Go.RowKit Go.Proofs.YtnnjfideeeampaaW.PrintWords Go.Proofs.YtnnjfideeeampaaW.PrintLast Go.Proofs.YtnnjfideeeampaaW.PrintMore Go.Proofs.Ytnnjfideeeampaa.U
/-- An act of counters. -/
structure TActD where
  raise : Bool
  i : Int
  n : Int
def kTAct : Kd TActD := Kd.iso (Kd.pair Kd.bool (Kd.pair (Kd.int .i64) (Kd.int .i64))) (fun x => (x.raise, x.i, x.n))
def GTAct (x : TActD) : Prop := True ∧ (Lit.int .i64 x.i).wf = true ∧ (Lit.int .i64 x.n).wf = true
theorem open_49 : Opens Try.prog 49 kTAct GTAct :=
  Opens.iso (Opens.struct Try.underlying49 (by kernel_rfl) (OpensF.cons (Opens.bool Try.underlying4) rfl (by kernel_rfl) rfl (OpensF.cons (Opens.int Try.underlying3) rfl (by kernel_rfl) rfl (OpensF.one (Opens.int Try.underlying3) rfl (by kernel_rfl))))) _ (fun p => ⟨p.1, p.2.1, p.2.2⟩) (fun _ => rfl)
theorem kTAct_open {w : World} {x : TActD} {cs : List Value} (h : kTAct.K w x cs) : cs = [.bool x.raise, .int .i64 x.i, .int .i64 x.n] := by
  obtain ⟨_, _, rfl, rfl, ⟨_, _, rfl, rfl, rfl⟩⟩ := h
  rfl
end Go.Proofs.Ytnnjfideeeampaa.T
namespace Go.Proofs.Ytnnjfideeeampaa.K
open Go.RowKit Go.Proofs.YtnnjfideeeampaaW.PrintWords Go.Proofs.YtnnjfideeeampaaW.PrintLast Go.Proofs.YtnnjfideeeampaaW.PrintMore Go.Proofs.Ytnnjfideeeampaa.U Go.Proofs.Ytnnjfideeeampaa.T

theorem at_tact {w : World} {A : Option Addr} {n : Nat} {xs : List TActD} (h : Kd.C kTAct w A n xs) (k : Nat) (hk : k < xs.length) : ∃ ad, A = some ad ∧ w.cell? (ad.add (k * 3)) = some (.bool xs[k].raise) ∧ w.cell? ⟨(ad.add (k * 3)).block, (ad.add (k * 3)).off + 1, none⟩ = some (.int .i64 xs[k].i) ∧ w.cell? ⟨(ad.add (k * 3)).block, (ad.add (k * 3)).off + 2, none⟩ = some (.int .i64 xs[k].n) := by
  obtain ⟨ad, c, e, hl, hK, hc⟩ := Kd.C_get h ⟨false, 0, 0⟩ (k : Int) (by omega) (by have := Kd.C_len h; omega)
  obtain rfl := kTAct_open hK
  have e2 : xs.getD (k : Int).toNat ⟨false, 0, 0⟩ = xs[k] := by rw [Int.toNat_natCast]; simp [List.getD_eq_getElem?_getD, hk]
  rw [e2] at hc
  have h0 := hc 0 _ rfl
  have h1 := hc 1 _ rfl
  have h2 := hc 2 _ rfl
  rw [Int.toNat_natCast] at h0 h1 h2
  exact ⟨ad, e, h0, (by rw [← add_add'] at h1; exact h1), (by rw [← add_add'] at h2; exact h2)⟩
theorem two_andt (w w1 w2 : World) (h : Below w.heap.size w w1) (k : Below w1.heap.size w1 w2) : Below w.heap.size w w2 := below_then h h.size k
theorem two_cht (w w1 w2 : World) (g : Nat) (h : Below w.heap.size w w1) (k : Ch w1 w2 (fun k => k = g)) (hS : w.heap.size ≤ g) : Below w.heap.size w w2 := Below.ch h k h.size (fun k hk => by rw [hk]; exact hS)

set_option maxHeartbeats 800000 in
theorem awake2 (w : World) : Calls Try.prog 27 #[] w fun e w' => e = .returned (.bool true) ∧ Below w.heap.size w w' := by
  go_enter Try.func27, Try.ntmps27
  go_wp2_with fail
  refine (tNew w).mono ?_
  rintro e w1 ⟨rfl, hd1, hb1⟩
  have HD1 := Aside0.mk hd1
  have HB1 := Aside0.mk hb1
  obtain ⟨g, hg⟩ : ∃ g, g = w.heap.size := ⟨_, rfl⟩
  have HG : Aside0 (w.heap.size ≤ g) := ⟨by omega⟩
  rw [← hg]
  have HD1' : Aside0 (TallyR 69 w1 w.heap.size g [0, 0, 0, 0, 0, 0, 0, 0]) := ⟨by rw [hg]; exact HD1.out⟩
  clear hd1 hb1 HD1 hg
  go_wp2_with fail
  refine (tAddA _ g _ 2 3 w1 HD1'.out).mono ?_
  rintro e w2 ⟨rfl, hd2, hc2⟩
  have e2 : addC [0, 0, 0, 0, 0, 0, 0, 0] 2 3 = [0, 0, 3, 0, 0, 0, 0, 0] := by decide
  rw [e2] at hd2
  rw [e2, show getC [0, 0, 3, 0, 0, 0, 0, 0] 2 = 3 by decide]
  have HD2 := Aside0.mk hd2
  have HB2 := Aside0.mk (two_cht _ _ _ _ HB1.out hc2 HG.out)
  clear hd2 hc2 e2
  go_wp2_with fail
  refine (tRaiseA _ g _ 2 9 w2 HD2.out).mono ?_
  rintro e w3 ⟨rfl, hd3, hc3⟩
  have e3 : raiseC [0, 0, 3, 0, 0, 0, 0, 0] 2 9 = [0, 0, 9, 0, 0, 0, 0, 0] := by decide
  rw [e3] at hd3
  rw [e3, show getC [0, 0, 9, 0, 0, 0, 0, 0] 2 = 9 by decide]
  have HD3 := Aside0.mk hd3
  have HB3 := Aside0.mk (two_cht _ _ _ _ HB2.out hc3 HG.out)
  clear hd3 hc3 e3
  go_wp2_with fail
  refine (tRaiseA _ g _ 2 4 w3 HD3.out).mono ?_
  rintro e w4 ⟨rfl, hd4, hc4⟩
  have e4 : raiseC [0, 0, 9, 0, 0, 0, 0, 0] 2 4 = [0, 0, 9, 0, 0, 0, 0, 0] := by decide
  rw [e4] at hd4
  rw [e4, show getC [0, 0, 9, 0, 0, 0, 0, 0] 2 = 9 by decide]
  have HD4 := Aside0.mk hd4
  have HB4 := Aside0.mk (two_cht _ _ _ _ HB3.out hc4 HG.out)
  clear hd4 hc4 e4
  go_wp2_with fail
  refine (tGetA _ _ g _ 2 w4 HD4.out).mono ?_
  rintro e w5 ⟨rfl, rfl⟩
  rw [show getC [0, 0, 9, 0, 0, 0, 0, 0] 2 = 9 by decide]
  go_wp2_with fail
  refine (tAll _ _ g _ w5 HD4.out).mono ?_
  rintro e w6 ⟨u, rfl, hu, hb6⟩
  obtain ⟨A, c, rfl, _, _⟩ := hu.reads
  have HB6 := Aside0.mk (two_andt _ _ _ HB4.out hb6)
  clear hu hb6
  go_wp2_with fail
  go_ret
  exact ⟨rfl, HB6.out⟩

set_option maxHeartbeats 800000 in
theorem tallyNone_walk (W : World) (x : TActD) (cs : List Value) (hk : kTAct.K W x cs) (hg : GTAct x) :
    Calls Try.prog 9 #[.agg cs.toArray] W fun e w' => e = .returned (.bool true) ∧ Below W.heap.size W w' := by
  obtain rfl := kTAct_open hk
  obtain ⟨r, i, n⟩ := x
  clear hk hg
  obtain ⟨w1, hw1⟩ : ∃ w1, w1 = W.alloc (.cells #[.bool r, .int .i64 i, .int .i64 n] 49) := ⟨_, rfl⟩
  have hba := (Below.refl W.heap.size W).alloc (Nat.le_refl _) (.cells #[.bool r, .int .i64 i, .int .i64 n] 49)
  rw [← hw1] at hba
  obtain ⟨g, hg⟩ : ∃ g, g = W.heap.size := ⟨_, rfl⟩
  have hbk : w1.heap[g]? = some (.cells [.bool r, .int .i64 i, .int .i64 n].toArray 49 (0, 0)) := by rw [hw1, hg]; exact alloc_at W _
  have HW1 := Aside0.mk hw1
  have HGG := Aside0.mk hg
  have HB1 := Aside0.mk hba
  have HBK := Aside0.mk hbk
  have hx1 : w1.cell? ⟨g, 1, none⟩ = some (.int .i64 i) := cell_of_blk hbk
  have hx2 : w1.cell? ⟨g, 2, none⟩ = some (.int .i64 n) := cell_of_blk hbk
  have hu := Try.underlying49
  clear hw1 hba hbk hg
  go_enter Try.func9, Try.ntmps9
  go_upto_region 2 with (fail)
  rw [← HW1.out, ← HGG.out]
  go_wp2_with fail
  refine (tAdd_none none i n w1 (fun w => tAt_nil i w)).mono ?_
  rintro e w2 ⟨rfl, hb2⟩
  have hbk2 := (hb2.block g (blk_lt' HBK.out)).trans HBK.out
  have hy1 : w2.cell? ⟨g, 1, none⟩ = some (.int .i64 i) := cell_of_blk hbk2
  have hy2 : w2.cell? ⟨g, 2, none⟩ = some (.int .i64 n) := cell_of_blk hbk2
  have HBK2 := Aside0.mk hbk2
  have HB2 := Aside0.mk (two_andt _ _ _ HB1.out hb2)
  clear hb2 hbk2 hx1 hx2
  go_wp2_with fail
  refine (tRaise_none none i n w2 (fun w => tAt_nil i w)).mono ?_
  rintro e w3 ⟨rfl, hb3⟩
  have hbk3 := (hb3.block g (blk_lt' HBK2.out)).trans HBK2.out
  have hz1 : w3.cell? ⟨g, 1, none⟩ = some (.int .i64 i) := cell_of_blk hbk3
  have HB3 := Aside0.mk (two_andt _ _ _ HB2.out hb3)
  clear hb3 hbk3 hy1 hy2
  go_wp2_with fail
  refine (tGet_nil i w3).mono ?_
  rintro e w4 ⟨rfl, rfl⟩
  go_wp2_with fail
  refine (tAll_nil w4).mono ?_
  rintro e w5 ⟨rfl, rfl⟩
  go_wp2_with fail
  refine (awake2 w5).mono ?_
  rintro e w6 ⟨rfl, hb6⟩
  have HB6 := Aside0.mk (two_andt _ _ _ HB3.out hb6)
  clear hb6
  go_wp2_with fail
  go_ret
  exact ⟨rfl, HB6.out⟩

/-- The sum of numbers brought below 2 to the 30. -/
def lowSum (l : List Int) : Int := (l.map (fun x => lowN x 1073741824)).sum
theorem lowSum_range (l : List Int) : 0 ≤ lowSum l ∧ lowSum l ≤ 1073741824 * l.length := by
  unfold lowSum
  induction l with
  | nil => simp
  | cons x l ih =>
    have h := lowN_range x 1073741824 (by omega)
    rw [List.map_cons, List.sum_cons, List.length_cons]
    omega
theorem lowSum_take (l : List Int) (k : Nat) (h : k < l.length) : lowSum (l.take (k + 1)) = lowSum (l.take k) + lowN l[k] 1073741824 := by
  rw [List.take_succ_eq_append_getElem h, lowSum, List.map_append, List.sum_append]
  simp [lowSum]
theorem lowSum_drop (l : List Int) (k j : Nat) (h : k < l.length) (hj : j = l.length - 1 - k) : lowSum (l.drop (l.length - (k + 1))) = lowSum (l.drop (l.length - k)) + lowN (l[j]'(by omega)) 1073741824 := by
  have hj' : j < l.length := by omega
  have e : l.length - (k + 1) = j := by omega
  have e2 : l.length - k = j + 1 := by omega
  rw [e, e2, List.drop_eq_getElem_cons hj', lowSum, List.map_cons, List.sum_cons, lowSum]
  omega
def one1 (x : Int) : List Int := [0, x, 0, 0, 0, 0, 0, 0]
theorem addC_one (X x : Int) (h0 : 0 ≤ x) (h1 : x ≤ 1099511627776) (h2 : X + x ≤ 1099511627776) : addC (one1 X) 1 x = one1 (X + x) := by
  have e1 : addN x = x := by unfold addN; rw [if_neg (by omega)]
  have e2 : min (X + x) 1099511627776 = X + x := by omega
  unfold addC one1
  rw [if_neg (by omega), e1]
  show [0, min (X + x) 1099511627776, 0, 0, 0, 0, 0, 0] = _
  rw [e2]
theorem addC_zero (X x : Int) (h0 : X ≤ 1099511627776) (h1 : addN x = 0) : addC (one1 X) 1 x = one1 X := by
  have e2 : min (X + 0) 1099511627776 = X := by omega
  unfold addC one1
  rw [if_neg (by omega), h1]
  show [0, min (X + 0) 1099511627776, 0, 0, 0, 0, 0, 0] = _
  rw [e2]
theorem addC_most (X x : Int) (h0 : 0 ≤ X) (h1 : addN x = x) (h2 : 1099511627776 ≤ X + x) : addC (one1 X) 1 x = one1 1099511627776 := by
  have e2 : min (X + x) 1099511627776 = 1099511627776 := by omega
  unfold addC one1
  rw [if_neg (by omega), h1]
  show [0, min (X + x) 1099511627776, 0, 0, 0, 0, 0, 0] = _
  rw [e2]
theorem getC_one (X : Int) : getC (one1 X) 1 = X := rfl

set_option maxRecDepth 100000 in
set_option maxHeartbeats 1600000 in
theorem tallySums_walk (W : World) (A0 : Option Addr) (c0 : Nat) (l0 : List Int) (hr0 : Kd.C (Kd.int .i64) W A0 l0.length l0) (hc0 : l0.length ≤ c0) (hg0 : ∀ x ∈ l0, (Lit.int .i64 x).wf = true) :
    Calls Try.prog 8 #[.slice A0 l0.length c0] W fun e w' => e = .returned (.bool true) ∧ Below W.heap.size W w' := by
  have hm0 := Kd.C_max hr0
  have HR0 := Aside0.mk hr0
  clear hr0 hg0
  rcases Nat.lt_or_ge 60 l0.length with h60 | h60
  · go_enter Try.func8, Try.ntmps8
    go_wp2_with fail
    refine (awake2 _).mono ?_
    rintro e w6 ⟨rfl, hb6⟩
    go_wp2_with fail
    go_ret
    exact ⟨rfl, hb6⟩
  · go_enter Try.func8, Try.ntmps8
    go_wp2_with fail
    refine (tNew W).mono ?_
    rintro e w1 ⟨rfl, hd1, hb1⟩
    obtain ⟨g1, hg1⟩ : ∃ g, g = W.heap.size := ⟨_, rfl⟩
    have G1 : Aside0 (W.heap.size ≤ g1) := ⟨by omega⟩
    rw [← hg1]
    have HD1 : Aside0 (TallyR 69 w1 W.heap.size g1 (one1 0)) := ⟨by rw [hg1]; exact hd1⟩
    have HB1 := Aside0.mk hb1
    clear hd1 hb1 hg1
    go_wp2_with fail
    refine (tNew w1).mono ?_
    rintro e w2 ⟨rfl, hd2, hb2⟩
    obtain ⟨g2, hg2⟩ : ∃ g, g = w1.heap.size := ⟨_, rfl⟩
    have G2 : Aside0 (g1 < g2) := ⟨by rw [hg2]; exact HD1.out.lt⟩
    rw [← hg2]
    have HE2 : Aside0 (TallyR 69 w2 W.heap.size g2 (one1 0)) := ⟨⟨by have := G1.out; have := G2.out; omega, by rw [hg2]; exact hd2.blk, hd2.len, hd2.rng⟩⟩
    have HD2 := Aside0.mk (HD1.out.below hb2)
    have HB2 := Aside0.mk (two_andt _ _ _ HB1.out hb2)
    clear hd2 hb2 hg2
    go_wp2_with fail
    go_loopg [5, 6] l0.length (fun kq v5 v6 w' => ∃ (k : Nat) (X Y : Int), k + kq = l0.length ∧ v5 = .int .i64 X ∧ v6 = .int .i64 k ∧ Aside0 (X = lowSum (l0.take k)) ∧ Aside0 (Y = lowSum (l0.drop (l0.length - k))) ∧ Aside0 (TallyR 69 w' W.heap.size g1 (one1 X)) ∧ Aside0 (TallyR 69 w' W.heap.size g2 (one1 Y)) ∧ Aside0 (Below W.heap.size W w'))
    case atStart => exact ⟨0, 0, 0, by omega, rfl, rfl, ⟨rfl⟩, ⟨by rw [Nat.sub_zero, List.drop_length]; rfl⟩, HD2, HE2, HB2⟩
    case round =>
      clear HD1 HB1 HD2 HE2 HB2
      obtain ⟨k, X, Y, hk, rfl, rfl, HX, HY, HD, HE, HB⟩ := hrel
      have hXr : 0 ≤ X ∧ X ≤ 1073741824 * 60 := by
        have h1 := lowSum_range (l0.take k)
        rw [← HX.out, List.length_take] at h1
        omega
      have hYr : 0 ≤ Y ∧ Y ≤ 1073741824 * 60 := by
        have h1 := lowSum_range (l0.drop (l0.length - k))
        rw [← HY.out, List.length_drop] at h1
        omega
      obtain ⟨hX0, hX1⟩ := hXr
      obtain ⟨hY0, hY1⟩ := hYr
      by_cases hlt : k < l0.length
      · obtain ⟨ad, rfl, hx0⟩ := Kd.at_int (Kd.C_below HR0.out HB.out) (k : Int) (by omega) (by omega)
        rw [rd_at _ _ hlt, Int.toNat_natCast] at hx0
        obtain ⟨x, hx⟩ : ∃ x, x = l0[k] := ⟨_, rfl⟩
        obtain ⟨y, hy⟩ : ∃ y, y = lowN x 1073741824 := ⟨_, rfl⟩
        rw [← hx] at hx0
        have hyr : 0 ≤ y ∧ y < 1073741824 := by rw [hy]; exact lowN_range _ _ (by omega)
        obtain ⟨hy0, hy1⟩ := hyr
        have HX1 : Aside0 (X + y = lowSum (l0.take (k + 1))) := ⟨by rw [lowSum_take _ _ hlt, ← HX.out, hy, hx]⟩
        have HYE := Aside0.mk hy
        clear hx hy
        go_wp2_with fail
        refine (low x 1073741824 _ (by omega) (by omega)).mono ?_
        rintro e w4 ⟨rfl, rfl⟩
        rw [← HYE.out]
        go_wp2_with fail
        refine (tAddA _ g1 _ 1 y _ HD.out).mono ?_
        rintro e w5 ⟨rfl, hd5, hc5⟩
        rw [addC_one X y hy0 (by omega) (by omega)] at hd5
        have HD5 := Aside0.mk hd5
        have HE5 := Aside0.mk (HE.out.ch hc5 (by have := G2.out; omega))
        have HB5 := Aside0.mk (two_cht _ _ _ _ HB.out hc5 G1.out)
        clear hd5 hc5 hx0
        obtain ⟨j, hj⟩ : ∃ j, j = l0.length - 1 - k := ⟨_, rfl⟩
        have hjl : j < l0.length := by omega
        have hji : (l0.length : Int) - 1 - k = j := by omega
        obtain ⟨ad2, e2, hx1⟩ := Kd.at_int (Kd.C_below HR0.out HB5.out) (j : Int) (by omega) (by omega)
        cases e2
        rw [rd_at _ _ hjl, Int.toNat_natCast] at hx1
        obtain ⟨x2, hx2⟩ : ∃ x, x = l0[j] := ⟨_, rfl⟩
        obtain ⟨y2, hy2⟩ : ∃ y, y = lowN x2 1073741824 := ⟨_, rfl⟩
        rw [← hx2] at hx1
        have hyr2 : 0 ≤ y2 ∧ y2 < 1073741824 := by rw [hy2]; exact lowN_range _ _ (by omega)
        obtain ⟨hy20, hy21⟩ := hyr2
        have HY1 : Aside0 (Y + y2 = lowSum (l0.drop (l0.length - (k + 1)))) := ⟨by rw [lowSum_drop _ _ j hlt hj, ← HY.out, hy2, hx2]⟩
        have HYE2 := Aside0.mk hy2
        rw [hj] at hx1
        have hji0 : (0 : Int) ≤ (l0.length : Int) - 1 - k := by omega
        have hji1 : (l0.length : Int) - 1 - k < l0.length := by omega
        clear hx2 hy2 hj hji
        go_wp2_with fail
        refine (low x2 1073741824 _ (by omega) (by omega)).mono ?_
        rintro e w6 ⟨rfl, rfl⟩
        rw [← HYE2.out]
        go_wp2_with fail
        refine (tAddA _ g2 _ 1 y2 _ HE5.out).mono ?_
        rintro e w7 ⟨rfl, hd7, hc7⟩
        rw [addC_one Y y2 hy20 (by omega) (by omega)] at hd7
        have HE7 := Aside0.mk hd7
        have HD7 := Aside0.mk (HD5.out.ch hc7 (by have := G2.out; omega))
        have HB7 := Aside0.mk (two_cht _ _ _ _ HB5.out hc7 (by have := G1.out; have := G2.out; omega))
        clear hd7 hc7 hx1
        go_wp2_with fail
        go_roundg (l0.length - (k + 1))
        case measure => omega
        case rel => exact ⟨k + 1, X + y, Y + y2, by omega, by go_num, by go_num, HX1, HY1, HD7, HE7, HB7⟩
      · obtain rfl : k = l0.length := by omega
        have hYX : Y = X := by rw [HX.out, HY.out, List.take_length, Nat.sub_self, List.drop_zero]
        subst hYX
        have HLS := HX
        clear HX HY
        have e0 : addN (-5) = 0 := by decide
        have e1 : addN 1099511627777 = 0 := by decide
        have e2 : addN 1099511627776 = 1099511627776 := by decide
        have e3 : addN 1 = 1 := by decide
        have E0 := Aside0.mk e0
        have E1 := Aside0.mk e1
        have E2 := Aside0.mk e2
        have E3 := Aside0.mk e3
        clear e0 e1 e2 e3
        go_wp2_with fail
        refine (tAddA _ g1 _ 1 (-5) _ HD.out).mono ?_
        rintro e w5 ⟨rfl, hd5, hc5⟩
        rw [addC_zero _ _ (by omega) E0.out] at hd5
        have HD5 := Aside0.mk hd5
        have HE5 := Aside0.mk (HE.out.ch hc5 (by have := G2.out; omega))
        have HB5 := Aside0.mk (two_cht _ _ _ _ HB.out hc5 G1.out)
        clear hd5 hc5
        go_wp2_with fail
        refine (tAddA _ g1 _ 1 1099511627777 _ HD5.out).mono ?_
        rintro e w6 ⟨rfl, hd6, hc6⟩
        rw [addC_zero _ _ (by omega) E1.out] at hd6
        have HD6 := Aside0.mk hd6
        have HE6 := Aside0.mk (HE5.out.ch hc6 (by have := G2.out; omega))
        have HB6 := Aside0.mk (two_cht _ _ _ _ HB5.out hc6 G1.out)
        clear hd6 hc6
        go_wp2_with fail
        refine (tGetA _ _ g1 _ 1 _ HD6.out).mono ?_
        rintro e w7 ⟨rfl, rfl⟩
        rw [getC_one]
        go_wp2_with fail
        refine (tGetA _ _ g2 _ 1 _ HE6.out).mono ?_
        rintro e w7 ⟨rfl, rfl⟩
        rw [getC_one]
        go_wp2_with fail
        refine (tAddA _ g1 _ 1 1099511627776 _ HD6.out).mono ?_
        rintro e w8 ⟨rfl, hd8, hc8⟩
        rw [addC_most _ _ hX0 E2.out (by omega)] at hd8
        rw [addC_most _ _ hX0 E2.out (by omega), getC_one]
        have HD8 := Aside0.mk hd8
        have HB8 := Aside0.mk (two_cht _ _ _ _ HB6.out hc8 G1.out)
        clear hd8 hc8
        go_wp2_with fail
        refine (tAddA _ g1 _ 1 1 _ HD8.out).mono ?_
        rintro e w9 ⟨rfl, hd9, hc9⟩
        rw [addC_most _ _ (by omega) E3.out (by omega), getC_one]
        have HB9 := Aside0.mk (two_cht _ _ _ _ HB8.out hc9 G1.out)
        clear hd9 hc9
        go_wp2_with fail
        refine (awake2 _).mono ?_
        rintro e w10 ⟨rfl, hb10⟩
        have HB10 := Aside0.mk (two_andt _ _ _ HB9.out hb10)
        clear hb10
        go_wp2_with fail
        go_ret
        exact ⟨rfl, HB10.out⟩
end Go.Proofs.Ytnnjfideeeampaa.K
