/- Counters: all of them; none; the document's. -/
import Derived.Test.YtnnjfideeeampaaTA2
import Derived.Test.YtnnjfideeeampaaKI
set_option linter.unusedVariables false
set_option linter.unusedSimpArgs false
namespace Go.Proofs.Ytnnjfideeeampaa.K
open Go.RowKit Go.Proofs.YtnnjfideeeampaaW.PrintWords Go.Proofs.YtnnjfideeeampaaW.PrintLast Go.Proofs.YtnnjfideeeampaaW.PrintMore Go.Proofs.Ytnnjfideeeampaa.U Go.Proofs.Ytnnjfideeeampaa.T
attribute [local go_sem] max2_int min2_int

theorem rd_take_succ (C : List Int) (k : Nat) (h : k < C.length) : C.take (k + 1) = C.take k ++ [rd C k] := by
  rw [List.take_succ_eq_append_getElem h]
  simp [rd, List.getD_eq_getElem?_getD, h]
set_option maxHeartbeats 800000 in
theorem tAll (t : TypeId) (base g : Nat) (C : List Int) (w : World) (h : TallyR t w base g C) : Calls Try.prog 33 #[.pointer (some ⟨g, 0, none⟩)] w fun e w' => ∃ u, e = .returned u ∧ Own (Kd.int .i64) 3 w' w.heap.size u C ∧ Below w.heap.size w w' := by
  have H := Aside0.mk h
  have hl8 := h.len
  have HL := Aside0.mk hl8
  clear h hl8
  go_enter Try.func33, Try.ntmps33
  go_wp2_with fail
  go_loopg [3, 7] 8 (fun kq v3 v7 w' => ∃ (k : Nat), k + kq = 8 ∧ v7 = .int .i64 k ∧ Aside0 (Own (Kd.int .i64) 3 w' w.heap.size v3 (C.take k)) ∧ Aside0 (Below w.heap.size w w'))
  case atStart => exact ⟨0, by omega, rfl, ⟨Own.nil _ _ _ _⟩, ⟨Below.refl _ _⟩⟩
  case round =>
    obtain ⟨k, hk, rfl, HV, HB⟩ := hrel
    by_cases hlt : k < 8
    · have HD := Aside0.mk (H.out.below HB.out)
      have hbase := HB.out.size
      obtain ⟨X, hX⟩ : ∃ X, X = C.take k := ⟨_, rfl⟩
      have hxl : X.length = k := by rw [hX, List.length_take]; have := HL.out; omega
      obtain ⟨x, hx⟩ : ∃ x, x = rd C k := ⟨_, rfl⟩
      have hY : X ++ [x] = C.take (k + 1) := by rw [rd_take_succ C k (by have := HL.out; omega), hX, hx]
      rw [← hX] at HV
      have HX := Aside0.mk hX
      have HXX := Aside0.mk hx
      have HY := Aside0.mk hY
      clear hX hx hY
      go_wp2_with fail
      refine (tGet t base g k hlt C _ HD.out).mono ?_
      rintro e w1 ⟨rfl, rfl⟩
      rw [← HXX.out]
      go_wp2_with (at_builtin; refine wpList_append_runs rfl _ _ _ _ rfl _ _ rfl rfl (append_one_runs Try.prog (flat_int .i64) 51 _ _ 8 Try.underlying51 info_int rfl (by decide) (x := x) (cs := [.int .i64 x]) HV.out rfl hbase (by omega) (by omega) 3 _ rfl _ rfl) ?_; rintro v4 w4 ⟨hv4, hg4⟩; have HV4 := Aside0.mk hv4; have HG4 := Aside0.mk hg4; clear hv4 hg4)
      rw [HY.out] at HV4
      have hba4 := HB.out.alloc hbase (.cells #[.int .i64 x] 3)
      have HB4 := Aside0.mk (hba4.grown HG4.out hba4.size (fun k hk => HV.out.base_ k hk))
      clear hba4
      go_roundg (8 - (k + 1))
      case measure => omega
      case rel => exact ⟨k + 1, by omega, by go_num, HV4, HB4⟩
    · obtain rfl : k = 8 := by omega
      have HV' : Aside0 (Own (Kd.int .i64) 3 wr w.heap.size _ C) := ⟨by have := HV.out; rwa [List.take_of_length_le (by have := HL.out; omega)] at this⟩
      go_wp2_with fail
      go_ret
      exact ⟨_, rfl, HV'.out, HB.out⟩

theorem noVar (w : World) (n : Int) : Below w.heap.size w (w.alloc (.cells #[.int .i64 n] 3)) := (Below.refl _ _).alloc (Nat.le_refl _) _
/-- A counter that there is not; no tally at all. -/
theorem tAdd_none (p : Option Addr) (i n : Int) (w : World) (hat : ∀ w, Calls Try.prog 40 #[.pointer p, .int .i64 i] w fun e w' => e = .returned (.pointer none) ∧ w' = w) : Calls Try.prog 31 #[.pointer p, .int .i64 i, .int .i64 n] w fun e w' => e = .returned (.int .i64 0) ∧ Below w.heap.size w w' := by
  have hmf : ∀ (fn : Fn) (first cap : Array Value) (w : World), (Instr.makeFunc fn first cap).run Try.prog w = .ok (.func fn first cap) w := fun _ _ _ _ => rfl
  have HAT := Aside0.mk hat
  clear hat
  by_cases h0 : n < 0
  · go_enter Try.func31, Try.ntmps31
    go_wp2_with fail
    refine (HAT.out _).mono ?_
    rintro e w1 ⟨rfl, rfl⟩
    go_wp2_with fail
    refine (change_nil _ _).mono ?_
    rintro e w1 ⟨rfl, rfl⟩
    go_wp2_with fail
    go_ret
    exact ⟨rfl, noVar _ _⟩
  · by_cases h1 : n > 1099511627776
    · go_enter Try.func31, Try.ntmps31
      go_wp2_with fail
      refine (HAT.out _).mono ?_
      rintro e w1 ⟨rfl, rfl⟩
      go_wp2_with fail
      refine (change_nil _ _).mono ?_
      rintro e w1 ⟨rfl, rfl⟩
      go_wp2_with fail
      go_ret
      exact ⟨rfl, noVar _ _⟩
    · go_enter Try.func31, Try.ntmps31
      go_wp2_with fail
      refine (HAT.out _).mono ?_
      rintro e w1 ⟨rfl, rfl⟩
      go_wp2_with fail
      refine (change_nil _ _).mono ?_
      rintro e w1 ⟨rfl, rfl⟩
      go_wp2_with fail
      go_ret
      exact ⟨rfl, noVar _ _⟩
theorem tRaise_none (p : Option Addr) (i n : Int) (w : World) (hat : ∀ w, Calls Try.prog 40 #[.pointer p, .int .i64 i] w fun e w' => e = .returned (.pointer none) ∧ w' = w) : Calls Try.prog 29 #[.pointer p, .int .i64 i, .int .i64 n] w fun e w' => e = .returned (.int .i64 0) ∧ Below w.heap.size w w' := by
  have hmf : ∀ (fn : Fn) (first cap : Array Value) (w : World), (Instr.makeFunc fn first cap).run Try.prog w = .ok (.func fn first cap) w := fun _ _ _ _ => rfl
  have HAT := Aside0.mk hat
  clear hat
  by_cases h1 : n > 1099511627776
  · go_enter Try.func29, Try.ntmps29
    go_wp2_with fail
    refine (HAT.out _).mono ?_
    rintro e w1 ⟨rfl, rfl⟩
    go_wp2_with fail
    refine (change_nil _ _).mono ?_
    rintro e w1 ⟨rfl, rfl⟩
    go_wp2_with fail
    go_ret
    exact ⟨rfl, noVar _ _⟩
  · go_enter Try.func29, Try.ntmps29
    go_wp2_with fail
    refine (HAT.out _).mono ?_
    rintro e w1 ⟨rfl, rfl⟩
    go_wp2_with fail
    refine (change_nil _ _).mono ?_
    rintro e w1 ⟨rfl, rfl⟩
    go_wp2_with fail
    go_ret
    exact ⟨rfl, noVar _ _⟩
theorem tGet_nil (i : Int) (w : World) : Calls Try.prog 36 #[.pointer none, .int .i64 i] w fun e w' => e = .returned (.int .i64 0) ∧ w' = w := by
  go_enter Try.func36, Try.ntmps36
  go_wp2_with fail
  refine (tAt_nil i w).mono ?_
  rintro e w1 ⟨rfl, rfl⟩
  go_wp2_with fail
  go_ret
  exact ⟨rfl, rfl⟩
theorem tAll_nil (w : World) : Calls Try.prog 33 #[.pointer none] w fun e w' => e = .returned (.slice none 0 0) ∧ w' = w := by
  go_enter Try.func33, Try.ntmps33
  go_wp2_with fail
  go_ret
  exact ⟨rfl, rfl⟩

/-- What comes of a call, whatever the place. -/
theorem tAddA (base g : Nat) (C : List Int) (i n : Int) (w : World) (h : TallyR 69 w base g C) :
    Calls Try.prog 31 #[.pointer (some ⟨g, 0, none⟩), .int .i64 i, .int .i64 n] w fun e w' => e = .returned (.int .i64 (getC (addC C i n) i)) ∧ TallyR 69 w' base g (addC C i n) ∧ Ch w w' (fun k => k = g) := by
  by_cases hi : i < 0 ∨ 8 ≤ i
  · refine (tAdd_none (some ⟨g, 0, none⟩) i n w (fun w => tAt_no g i hi w)).mono ?_
    rintro e w1 ⟨rfl, hb⟩
    rw [getC, if_pos hi, addC, if_pos hi]
    exact ⟨rfl, h.below hb, Ch.of_below hb _⟩
  · obtain ⟨k, rfl⟩ : ∃ k : Nat, i = k := ⟨i.toNat, by omega⟩
    refine (tAdd base g k (by omega) C n _ w h rfl).mono ?_
    rintro e w1 ⟨rfl, hd, hc⟩
    rw [getC, if_neg hi, addC, if_neg hi, Int.toNat_natCast]
    refine ⟨?_, hd, hc⟩
    have hl := h.len
    simp [rd, List.getD_eq_getElem?_getD, show k < C.length by omega]
theorem tRaiseA (base g : Nat) (C : List Int) (i n : Int) (w : World) (h : TallyR 69 w base g C) :
    Calls Try.prog 29 #[.pointer (some ⟨g, 0, none⟩), .int .i64 i, .int .i64 n] w fun e w' => e = .returned (.int .i64 (getC (raiseC C i n) i)) ∧ TallyR 69 w' base g (raiseC C i n) ∧ Ch w w' (fun k => k = g) := by
  by_cases hi : i < 0 ∨ 8 ≤ i
  · refine (tRaise_none (some ⟨g, 0, none⟩) i n w (fun w => tAt_no g i hi w)).mono ?_
    rintro e w1 ⟨rfl, hb⟩
    rw [getC, if_pos hi, raiseC, if_pos hi]
    exact ⟨rfl, h.below hb, Ch.of_below hb _⟩
  · obtain ⟨k, rfl⟩ : ∃ k : Nat, i = k := ⟨i.toNat, by omega⟩
    refine (tRaise base g k (by omega) C n _ w h rfl).mono ?_
    rintro e w1 ⟨rfl, hd, hc⟩
    rw [getC, if_neg hi, raiseC, if_neg hi, Int.toNat_natCast]
    refine ⟨?_, hd, hc⟩
    have hl := h.len
    simp [rd, List.getD_eq_getElem?_getD, show k < C.length by omega]
theorem tGetA (t : TypeId) (base g : Nat) (C : List Int) (i : Int) (w : World) (h : TallyR t w base g C) : Calls Try.prog 36 #[.pointer (some ⟨g, 0, none⟩), .int .i64 i] w fun e w' => e = .returned (.int .i64 (getC C i)) ∧ w' = w := by
  by_cases hi : i < 0 ∨ 8 ≤ i
  · rw [getC, if_pos hi]
    exact tGet_no g i hi w
  · obtain ⟨k, rfl⟩ : ∃ k : Nat, i = k := ⟨i.toNat, by omega⟩
    rw [getC, if_neg hi, Int.toNat_natCast]
    exact tGet t base g k (by omega) C w h

theorem ch_one (w : World) (g k : Nat) (v : Value) : Ch w (w.setCell ⟨g, k, none⟩ v).drew (fun j => j = g) :=
  (show Ch w (w.setCell ⟨g, k, none⟩ v) (fun j => j = g) from (Ch.refl w _).setCell ⟨g, k, none⟩ v rfl).trans (Ch.of_below (below_drew1 (Below.refl _ _)) (fun _ => False)) (fun _ _ h => h.elim)
theorem addC_at (C : List Int) (k : Nat) (hk : k < 8) (hl : C.length = 8) (n m : Int) (hm : m = min (rd C k + addN n) 1099511627776) : addC C k n = C.set k m ∧ getC (addC C k n) k = m := by
  have h1 : addC C k n = C.set k m := by rw [addC, if_neg (by omega), Int.toNat_natCast, hm]
  refine ⟨h1, ?_⟩
  rw [h1, getC, if_neg (by omega), Int.toNat_natCast]
  simp [rd, List.getD_eq_getElem?_getD, show k < C.length by omega]
theorem raiseC_at (C : List Int) (k : Nat) (hk : k < 8) (hl : C.length = 8) (n m : Int) (hm : m = max (rd C k) (raiseN n)) : raiseC C k n = C.set k m ∧ getC (raiseC C k n) k = m := by
  have h1 : raiseC C k n = C.set k m := by rw [raiseC, if_neg (by omega), Int.toNat_natCast, hm]
  refine ⟨h1, ?_⟩
  rw [h1, getC, if_neg (by omega), Int.toNat_natCast]
  simp [rd, List.getD_eq_getElem?_getD, show k < C.length by omega]

set_option maxHeartbeats 800000 in
theorem refTAdd (base g : Nat) (C : List Int) (i n : Int) (w : World) (h : TallyR 47 w base g C) :
    Calls Try.prog 32 #[.pointer (some ⟨g, 0, none⟩), .int .i64 i, .int .i64 n] w fun e w' => e = .returned (.int .i64 (getC (addC C i n) i)) ∧ TallyR 47 w' base g (addC C i n) ∧ Ch w w' (fun k => k = g) := by
  rcases Int.lt_or_le i 0 with h1 | h1
  · go_enter Try.func32, Try.ntmps32
    go_wp2_with fail
    go_ret
    rw [getC, if_pos (.inl h1), addC, if_pos (.inl h1)]
    exact ⟨rfl, h, Ch.refl _ _⟩
  · rcases Int.lt_or_le 7 i with h2 | h2
    · go_enter Try.func32, Try.ntmps32
      go_wp2_with fail
      go_ret
      rw [getC, if_pos (by omega), addC, if_pos (by omega)]
      exact ⟨rfl, h, Ch.refl _ _⟩
    · obtain ⟨k, rfl⟩ : ∃ k : Nat, i = k := ⟨i.toNat, by omega⟩
      have hk : k < 8 := by omega
      have hcell := h.cell k hk
      have hfz := h.frozen k
      have hrr := h.rd_rng k hk
      have H := Aside0.mk h
      obtain ⟨r, hr⟩ : ∃ r, r = rd C k := ⟨_, rfl⟩
      rw [← hr] at hcell hrr
      obtain ⟨hr0, hr1⟩ := hrr
      have HRD := Aside0.mk hr
      clear h hr
      by_cases h3 : 0 < n
      · by_cases h4 : n ≤ 1099511627776
        · obtain ⟨m, hm⟩ : ∃ m, m = min (r + n) 1099511627776 := ⟨_, rfl⟩
          have hsp := addC_at C k hk H.out.len n m (by rw [← HRD.out, show addN n = n by unfold addN; rw [if_neg (by omega)]]; exact hm)
          rw [hsp.1]
          have hsp2 := hsp.2
          rw [hsp.1] at hsp2
          rw [hsp2]
          have hm0 : 0 ≤ m := by omega
          have hm1 : m ≤ 1099511627776 := by omega
          have HIF : Aside0 ((if 1099511627776 < r + n then 1099511627776 else r + n) = m) := ⟨by rw [hm]; split <;> omega⟩
          have hcell2 : (w.setCell ⟨g, k, none⟩ (.int .i64 m)).cell? ⟨g, k, none⟩ = some (.int .i64 m) := World.cell?_setCell_same w _ _ hcell
          clear hsp hsp2 hm
          go_enter Try.func32, Try.ntmps32
          go_wp2_with fail
          go_region
          rw [HIF.out]
          go_wp2_with fail
          go_ret
          exact ⟨rfl, (H.out.set k m ⟨hm0, hm1⟩).below (below_drew1 (Below.refl _ _)), ch_one w g k _⟩
        · have hsp := addC_at C k hk H.out.len n r (by rw [← HRD.out, show addN n = 0 by unfold addN; first | rw [if_pos (by omega)] | rw [if_neg (by omega)] | (split <;> omega)]; omega)
          rw [hsp.1]
          have hsp2 := hsp.2
          rw [hsp.1] at hsp2
          rw [hsp2, show C.set k r = C by rw [HRD.out]; exact set_rd C k]
          clear hsp hsp2
          go_enter Try.func32, Try.ntmps32
          go_wp2_with fail
          go_ret
          exact ⟨rfl, H.out, Ch.refl _ _⟩
      · have hsp := addC_at C k hk H.out.len n r (by rw [← HRD.out, show addN n = 0 by unfold addN; first | rw [if_pos (by omega)] | rw [if_neg (by omega)] | (split <;> omega)]; omega)
        rw [hsp.1]
        have hsp2 := hsp.2
        rw [hsp.1] at hsp2
        rw [hsp2, show C.set k r = C by rw [HRD.out]; exact set_rd C k]
        clear hsp hsp2
        go_enter Try.func32, Try.ntmps32
        go_wp2_with fail
        go_ret
        exact ⟨rfl, H.out, Ch.refl _ _⟩
set_option maxHeartbeats 800000 in
theorem refTRaise (base g : Nat) (C : List Int) (i n : Int) (w : World) (h : TallyR 47 w base g C) :
    Calls Try.prog 30 #[.pointer (some ⟨g, 0, none⟩), .int .i64 i, .int .i64 n] w fun e w' => e = .returned (.int .i64 (getC (raiseC C i n) i)) ∧ TallyR 47 w' base g (raiseC C i n) ∧ Ch w w' (fun k => k = g) := by
  rcases Int.lt_or_le i 0 with h1 | h1
  · go_enter Try.func30, Try.ntmps30
    go_wp2_with fail
    go_ret
    rw [getC, if_pos (.inl h1), raiseC, if_pos (.inl h1)]
    exact ⟨rfl, h, Ch.refl _ _⟩
  · rcases Int.lt_or_le 7 i with h2 | h2
    · go_enter Try.func30, Try.ntmps30
      go_wp2_with fail
      go_ret
      rw [getC, if_pos (by omega), raiseC, if_pos (by omega)]
      exact ⟨rfl, h, Ch.refl _ _⟩
    · obtain ⟨k, rfl⟩ : ∃ k : Nat, i = k := ⟨i.toNat, by omega⟩
      have hk : k < 8 := by omega
      have hcell := h.cell k hk
      have hfz := h.frozen k
      have hrr := h.rd_rng k hk
      have H := Aside0.mk h
      obtain ⟨r, hr⟩ : ∃ r, r = rd C k := ⟨_, rfl⟩
      rw [← hr] at hcell hrr
      obtain ⟨hr0, hr1⟩ := hrr
      have HRD := Aside0.mk hr
      clear h hr
      by_cases h4 : n ≤ 1099511627776
      · obtain ⟨m, hm⟩ : ∃ m, m = max r n := ⟨_, rfl⟩
        have hsp := raiseC_at C k hk H.out.len n m (by rw [← HRD.out, show raiseN n = n by unfold raiseN; rw [if_neg (by omega)]]; exact hm)
        rw [hsp.1]
        have hsp2 := hsp.2
        rw [hsp.1] at hsp2
        rw [hsp2]
        have hm0 : 0 ≤ m := by omega
        have hm1 : m ≤ 1099511627776 := by omega
        have HIF : Aside0 ((if r < n then n else r) = m) := ⟨by rw [hm]; split <;> omega⟩
        have hcell2 : (w.setCell ⟨g, k, none⟩ (.int .i64 m)).cell? ⟨g, k, none⟩ = some (.int .i64 m) := World.cell?_setCell_same w _ _ hcell
        clear hsp hsp2 hm
        go_enter Try.func30, Try.ntmps30
        go_wp2_with fail
        go_region
        rw [HIF.out]
        go_wp2_with fail
        go_ret
        exact ⟨rfl, (H.out.set k m ⟨hm0, hm1⟩).below (below_drew1 (Below.refl _ _)), ch_one w g k _⟩
      · have hsp := raiseC_at C k hk H.out.len n r (by rw [← HRD.out, show raiseN n = 0 by unfold raiseN; first | rw [if_pos (by omega)] | rw [if_neg (by omega)] | (split <;> omega)]; omega)
        rw [hsp.1]
        have hsp2 := hsp.2
        rw [hsp.1] at hsp2
        rw [hsp2, show C.set k r = C by rw [HRD.out]; exact set_rd C k]
        clear hsp hsp2
        go_enter Try.func30, Try.ntmps30
        go_wp2_with fail
        go_ret
        exact ⟨rfl, H.out, Ch.refl _ _⟩
end Go.Proofs.Ytnnjfideeeampaa.K
