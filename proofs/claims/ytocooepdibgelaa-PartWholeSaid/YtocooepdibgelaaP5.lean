/- The statement PartWhole. -/
import Derived.Test.YtocooepdibgelaaP4
import Derived.Test.YtocooepdibgelaaCh
set_option linter.unusedVariables false
set_option linter.unusedSimpArgs false
namespace Go.Proofs.Ytocooepdibgelaa.K
open Go.RowKit Go.Proofs.YtocooepdibgelaaW.PrintWords Go.Proofs.YtocooepdibgelaaW.PrintLast Go.Proofs.YtocooepdibgelaaW.PrintMore Go.Proofs.Ytocooepdibgelaa.U Go.Proofs.Ytocooepdibgelaa.T
attribute [local go_sem high] eqA_pair

theorem alloc_size (w : World) (o : Obj) : (w.alloc o).heap.size = w.heap.size + 1 := by simp
theorem getD_zeros (n j : Nat) : (List.replicate n (0 : Int)).getD j 0 = 0 := by
  rw [List.getD_eq_getElem?_getD, List.getElem?_replicate]
  split <;> rfl
theorem getD_set {α : Type} (V : List α) (q j : Nat) (v d : α) (h : q < V.length) : (V.set q v).getD j d = if j = q then v else V.getD j d := by
  simp only [List.getD_eq_getElem?_getD, List.getElem?_set]
  by_cases hj : q = j
  · subst hj; simp [h]
  · rw [if_neg hj, if_neg (fun e => hj e.symm)]
theorem cell_getD {w : World} {g j : Nat} {cs : List Value} {t : TypeId} {fr : Nat × Nat} (h : w.heap[g]? = some (.cells cs.toArray t fr)) (hj : j < cs.length) : w.cell? ⟨g, j, none⟩ = some (cs.getD j (.slice none 0 0)) := by
  rw [cell_of_blk h]
  simp [List.getD_eq_getElem?_getD, hj]
theorem cell_int {w : World} {g j : Nat} {cs : List Int} {t : TypeId} {fr : Nat × Nat} (h : w.heap[g]? = some (.cells (nums .i64 cs).toArray t fr)) (hj : j < cs.length) : w.cell? ⟨g, j, none⟩ = some (.int .i64 (cs.getD j 0)) := by
  rw [cell_of_blk h]
  simp [nums, List.getD_eq_getElem?_getD, hj]

theorem onlyL_pick (l : List PairD) (i : Nat) (h : i < l.length) (parts p : Int) (hp : partN l[i].key parts = p) : ∃ (X : List PairD) (t : Nat), X = onlyL l parts p ∧ t = (onlyL (l.take i) parts p).length ∧ ∃ hq : t < X.length, X[t] = l[i] :=
  ⟨_, _, rfl, rfl, onlyL_drop l i h parts p hp⟩
set_option maxRecDepth 100000 in
set_option maxHeartbeats 3200000 in
theorem partWhole_walk (W : World) (A0 : Option Addr) (c0 : Nat) (l0 : List PairD) (hr0 : Kd.C kPair W A0 l0.length l0) (hc0 : l0.length ≤ c0) (hg0 : ∀ x ∈ l0, GPair x) (parts : Int) (wparts : (Lit.int .i64 parts).wf = true) :
    Calls Try.prog 4 #[.slice A0 l0.length c0, .int .i64 parts] W fun e w' => e = .returned (.bool true) ∧ Below W.heap.size W w' := by
  have hm0 := Kd.C_max hr0
  have HR0 := Aside0.mk hr0
  have HG0 := Aside0.mk hg0
  clear hr0 hg0 wparts
  have hu := Try.underlying37
  go_enter Try.func4, Try.ntmps4
  go_wp2_with fail
  refine (greatPairs A0 c0 l0 80 W HR0.out HG0.out).mono ?_
  rintro e w1 ⟨⟨r, rfl, hr⟩, hb1⟩
  cases r with
  | true =>
    go_wp2_with fail
    refine (awake8 _).mono ?_
    rintro e w6 ⟨rfl, hb6⟩
    have HB6 := Aside0.mk (two_and' _ _ _ hb1 hb6)
    clear hb1 hb6
    go_wp2_with fail
    go_ret
    exact ⟨rfl, HB6.out⟩
  | false =>
    have hl80 := (hr rfl).1
    have HB1 := Aside0.mk hb1
    clear hr hb1
    obtain ⟨s0, hs0⟩ : ∃ q, q = lowN parts 20 := ⟨_, rfl⟩
    have rs : 0 ≤ s0 ∧ s0 < 20 := by rw [hs0]; exact lowN_range _ _ (by omega)
    obtain ⟨rs0, rs1⟩ := rs
    have HS0 := Aside0.mk hs0
    clear hs0
    obtain ⟨ps, hps⟩ : ∃ ps : Nat, (ps : Int) = 1 + s0 := ⟨(1 + s0).toNat, by omega⟩
    have hps1 : 1 ≤ ps := by omega
    have hps2 : ps ≤ 20 := by omega
    have HPS := Aside0.mk hps.symm
    clear hps
    obtain ⟨gA, hgA⟩ : ∃ g, g = w1.heap.size := ⟨_, rfl⟩
    obtain ⟨gR, hgR⟩ : ∃ g, g = w1.heap.size + 1 := ⟨_, rfl⟩
    obtain ⟨w2, hw2⟩ : ∃ w, w = w1.alloc (.cells #[.int .i64 0, .int .i64 0, .int .i64 0, .int .i64 0, .int .i64 0, .int .i64 0, .int .i64 0, .int .i64 0, .int .i64 0, .int .i64 0, .int .i64 0, .int .i64 0, .int .i64 0, .int .i64 0, .int .i64 0, .int .i64 0, .int .i64 0, .int .i64 0, .int .i64 0, .int .i64 0] 34) := ⟨_, rfl⟩
    have hsz2 : w2.heap.size = gR := by rw [hw2, hgR, alloc_size]
    obtain ⟨w3, hw3⟩ : ∃ w, w = w2.alloc (.cells #[.slice none 0 0, .slice none 0 0, .slice none 0 0, .slice none 0 0, .slice none 0 0, .slice none 0 0, .slice none 0 0, .slice none 0 0, .slice none 0 0, .slice none 0 0, .slice none 0 0, .slice none 0 0, .slice none 0 0, .slice none 0 0, .slice none 0 0, .slice none 0 0, .slice none 0 0, .slice none 0 0, .slice none 0 0, .slice none 0 0] 35) := ⟨_, rfl⟩
    have hbA : w3.heap[gA]? = some (.cells (nums .i64 (List.replicate 20 0)).toArray 34 (0, 0)) := by
      rw [hw3, alloc_old _ _ _ (by rw [hsz2]; omega), hw2, hgA]
      exact alloc_at w1 _
    have hbR : w3.heap[gR]? = some (.cells (List.replicate 20 (.slice none 0 0)).toArray 35 (0, 0)) := by
      rw [hw3, ← hsz2]
      exact alloc_at w2 _
    have hba2 := HB1.out.alloc HB1.out.size (.cells #[.int .i64 0, .int .i64 0, .int .i64 0, .int .i64 0, .int .i64 0, .int .i64 0, .int .i64 0, .int .i64 0, .int .i64 0, .int .i64 0, .int .i64 0, .int .i64 0, .int .i64 0, .int .i64 0, .int .i64 0, .int .i64 0, .int .i64 0, .int .i64 0, .int .i64 0, .int .i64 0] 34)
    rw [← hw2] at hba2
    have hba3 := hba2.alloc hba2.size (.cells #[.slice none 0 0, .slice none 0 0, .slice none 0 0, .slice none 0 0, .slice none 0 0, .slice none 0 0, .slice none 0 0, .slice none 0 0, .slice none 0 0, .slice none 0 0, .slice none 0 0, .slice none 0 0, .slice none 0 0, .slice none 0 0, .slice none 0 0, .slice none 0 0, .slice none 0 0, .slice none 0 0, .slice none 0 0, .slice none 0 0] 35)
    rw [← hw3] at hba3
    have hsz3 : w3.heap.size = gR + 1 := by rw [hw3, ← hsz2, alloc_size]
    have HB3 := Aside0.mk hba3
    have HBA := Aside0.mk hbA
    have HBR := Aside0.mk hbR
    have HW2 := Aside0.mk hw2
    have HW3 := Aside0.mk hw3
    have HGA := Aside0.mk hgA
    have HGR := Aside0.mk hgR
    have HSZ2 := Aside0.mk hsz2
    have HSZ3 := Aside0.mk hsz3
    have HGL : Aside0 (W.heap.size ≤ gA ∧ gA < gR) := ⟨by have := HB1.out.size; omega⟩
    clear hw2 hw3 hgA hgR hsz2 hsz3 hbA hbR hba2 hba3
    go_wp2_with fail
    refine (low parts 20 _ (by omega) (by omega)).mono ?_
    rintro e w1' ⟨rfl, rfl⟩
    rw [← HS0.out]
    go_upto_region 7 with (fail)
    rw [← HGR.out, ← HGA.out, ← HW2.out, ← HW3.out]
    rw [HPS.out]
    go_wp2_with fail
    go_loopg [5, 8] ps (fun kq v5 v8 w' => ∃ (k n : Nat) (V : List Value), k + kq = ps ∧ v5 = .int .i64 n ∧ v8 = .int .i64 k ∧ Aside0 (n = partsSum l0 ps k) ∧ Aside0 (V.length = 20) ∧ Aside0 (w'.heap[gA]? = some (.cells (nums .i64 (List.replicate 20 0)).toArray 34 (0, 0))) ∧ Aside0 (w'.heap[gR]? = some (.cells V.toArray 35 (0, 0))) ∧ Aside0 (∀ j, j < k → Own kPair 37 w' (gR + 1) (V.getD j (.slice none 0 0)) (onlyL l0 ps j)) ∧ Aside0 (gR < w'.heap.size) ∧ Aside0 (Below W.heap.size W w'))
    case atStart => exact ⟨0, 0, _, by omega, rfl, rfl, ⟨rfl⟩, ⟨by simp⟩, HBA, HBR, ⟨fun j h => by omega⟩, ⟨by rw [HSZ3.out]; omega⟩, HB3⟩
    case round =>
      clear HB3 HBA HBR HW2 HW3 HSZ2 HSZ3 HB1
      obtain ⟨k, n, V, hk, rfl, rfl, HN, HVL, HBA, HBR, HV, HSZ, HB⟩ := hrel
      have hn80 : n ≤ 80 := by have h1 := partsSum_le l0 ps (by omega) k; rw [← HN.out] at h1; omega
      by_cases hlt : k < ps
      · go_wp2_with fail
        refine (only A0 c0 l0 ps k wr (Kd.C_below HR0.out HB.out) HG0.out (by omega) (by omega)).mono ?_
        rintro e w4 ⟨v4, X, rfl, hv4, HX, hb4⟩
        obtain ⟨A4, c4, rfl, hc4, _⟩ := hv4.reads
        have HBA4 := Aside0.mk ((hb4.block gA (blk_lt' HBA.out)).trans HBA.out)
        have hbR4 := (hb4.block gR (blk_lt' HBR.out)).trans HBR.out
        have hfz : w4.frozen? ⟨gR, k, none⟩ = false := frozen_of_blk hbR4
        have hcell := cell_getD (j := k) hbR4 (by rw [HVL.out]; omega)
        obtain ⟨ov, hov⟩ : ∃ ov, ov = V.getD k (.slice none 0 0) := ⟨_, rfl⟩
        rw [← hov] at hcell
        have HBR5 := Aside0.mk (setCell_blk (j := k) hbR4 (.slice A4 X.length c4))
        obtain ⟨w5, hw5⟩ : ∃ w, w = w4.setCell ⟨gR, k, none⟩ (.slice A4 X.length c4) := ⟨_, rfl⟩
        rw [← hw5] at HBR5
        have hcs : Ch w4 w5 (fun g => g = gR) := by rw [hw5]; exact (Ch.refl w4 _).setCell _ _ rfl
        have hcell5 : w5.cell? ⟨gR, k, none⟩ = some (.slice A4 X.length c4) := by
          rw [cell_getD (j := k) HBR5.out (by rw [List.length_set, HVL.out]; omega), getD_set _ _ _ _ _ (by rw [HVL.out]; omega), if_pos rfl]
        have HBA5 := Aside0.mk (hcs.blk HBA4.out (by have := HGL.out; omega))
        have HB5 := Aside0.mk (Below.ch (two_and' _ _ _ HB.out hb4) hcs (two_and' _ _ _ HB.out hb4).size (fun k hk => by have := HGL.out; omega))
        have HV5 : Aside0 (∀ j, j < k + 1 → Own kPair 37 w5 (gR + 1) ((V.set k (.slice A4 X.length c4)).getD j (.slice none 0 0)) (onlyL l0 ps j)) := ⟨fun j hj => by
          rw [getD_set _ _ _ _ _ (by rw [HVL.out]; omega)]
          by_cases hjk : j = k
          · subst hjk
            rw [if_pos rfl, ← HX.out]
            exact (hv4.lower (by have := HSZ.out; omega)).ch flat_pair hcs (fun b hb e => by have := hv4.base_ b hb; have := HSZ.out; omega)
          · rw [if_neg hjk]
            have ho := HV.out j (by omega)
            exact (ho.below hb4).ch flat_pair hcs (fun b hb e => by have := ho.base_ b hb; omega)⟩
        have HSZ5 : Aside0 (gR < w5.heap.size) := ⟨blk_lt' HBR5.out⟩
        have hxl : n + X.length ≤ 80 := by have h1 := partsSum_le l0 ps (by omega) (k + 1); rw [partsSum, ← HN.out, ← HX.out] at h1; omega
        have HN5 : Aside0 (n + X.length = partsSum l0 ps (k + 1)) := ⟨by rw [partsSum, ← HN.out, ← HX.out]⟩
        have HW5 := Aside0.mk hw5
        clear hv4 hb4 hbR4 hw5 hcs hov
        go_upto_region 11 with (fail)
        rw [← HW5.out]
        go_wp2_with fail
        go_roundg (ps - (k + 1))
        case measure => omega
        case rel => exact ⟨k + 1, n + X.length, _, by omega, by go_num, by go_num, HN5, ⟨by rw [List.length_set]; exact HVL.out⟩, HBA5, HBR5, HV5, HSZ5, HB5⟩
      · obtain rfl : k = ps := by omega
        have hn : n = l0.length := by rw [HN.out]; exact partsSum_all l0 k (by omega) k rfl
        subst hn
        go_wp2_with fail
        go_loopg [9, 10] l0.length (fun kq v9 v10 w' => ∃ (i : Nat) (aL : List Int), i + kq = l0.length ∧ v9 = .int .i64 i ∧ Aside0 (aL.length = 20) ∧ Aside0 (∀ j, j < k → aL.getD j 0 = (onlyL (l0.take i) k j).length) ∧ Aside0 (w'.heap[gA]? = some (.cells (nums .i64 aL).toArray 34 (0, 0))) ∧ Aside0 (Ch wr w' (fun g => g = gA)))
        case atStart => exact ⟨0, List.replicate 20 0, by omega, rfl, ⟨by simp⟩, ⟨fun j hj => by rw [getD_zeros]; rfl⟩, HBA, ⟨Ch.refl _ _⟩⟩
        case round =>
          obtain ⟨i, aL, hi, rfl, HAL, HAE, HBA2, HC⟩ := hrel
          by_cases hlt2 : i < l0.length
          · have HBw := Aside0.mk (Below.ch HB.out HC.out HB.out.size (fun b hb => by have := HGL.out; omega))
            obtain ⟨ad, rfl, hx0, hx1⟩ := at_pair2 (Kd.C_below HR0.out HBw.out) i hlt2
            obtain ⟨s, hs⟩ : ∃ s, s = l0[i] := ⟨_, rfl⟩
            rw [← hs] at hx0 hx1
            have hsz : GPair s := by rw [hs]; exact HG0.out _ (List.getElem_mem _)
            obtain ⟨hsz1, hsz2⟩ := hsz
            have hpr := partN_range s.key k (by omega)
            obtain ⟨q, hq⟩ : ∃ q : Nat, partN s.key k = q := ⟨(partN s.key k).toNat, by omega⟩
            rw [hq] at hpr
            have hqk : q < k := by omega
            have hq20 : q < 20 := by omega
            obtain ⟨X, t, hX, ht, htl, htX⟩ := onlyL_pick l0 i hlt2 k q (by rw [← hs]; exact hq)
            rw [← hs] at htX
            have hxm : X.length ≤ 80 := by rw [hX]; exact Nat.le_trans (onlyL_length _ _ _) (by omega)
            have HVq := HV.out q hqk
            rw [← hX] at HVq
            obtain ⟨Av, cv, hav, hcv, _⟩ := HVq.reads
            have haL := HAE.out q hqk
            rw [← ht] at haL
            have HX := Aside0.mk hX
            have HT := Aside0.mk ht
            have HQ := Aside0.mk hq
            have HSS := Aside0.mk hs
            have HTX := Aside0.mk htX
            have HAV := Aside0.mk hav
            have HVQ := Aside0.mk HVq
            have HALQ := Aside0.mk haL
            clear hX ht hq hs htX hav HVq haL
            go_wp2_with fail
            refine (of_ s.key k _ hsz1 (by omega)).mono ?_
            rintro e w4 ⟨rfl, hb4⟩
            rw [HQ.out]
            have hA4 := (hb4.block gA (blk_lt' HBA2.out)).trans HBA2.out
            have hR4 := (hb4.block gR (blk_lt' (HC.out.blk HBR.out (by have := HGL.out; omega)))).trans (HC.out.blk HBR.out (by have := HGL.out; omega))
            have hcA := cell_int (j := q) hA4 (by rw [HAL.out]; exact hq20)
            rw [HALQ.out] at hcA
            have hcR := cell_getD (j := q) hR4 (by rw [HVL.out]; exact hq20)
            rw [HAV.out] at hcR
            have hV4 : Own kPair 37 w4 (gR + 1) (.slice Av X.length cv) X := by
              rw [← HAV.out]
              exact (HVQ.out.ch flat_pair HC.out (fun b hb e => by have := HVQ.out.base_ b hb; have := HGL.out; omega)).below hb4
            obtain ⟨ad2, rfl, hz0, hz1⟩ := at_pair2 hV4.is.2.2 t htl
            rw [HTX.out] at hz0 hz1
            have hy0 := (hb4.cell (World.block_lt_of_cell? wr _ hx0)).trans hx0
            have hy1 := (hb4.cell (World.block_lt_of_cell? wr _ hx1)).trans hx1
            have hfA : w4.frozen? ⟨gA, q, none⟩ = false := frozen_of_blk hA4
            have hab : eqP s.key s.val s.key s.val = true := (eqP_iff s s).2 rfl
            have HA4 := Aside0.mk hA4
            have HB4 := Aside0.mk hb4
            have hq0 : ¬ (q : Int) < 0 := by omega
            have hq1 : ¬ (k : Int) ≤ q := by omega
            have hq2 : ¬ (X.length : Int) ≤ t := by omega
            have hq3 : (0 : Int) ≤ q := by omega
            have hq4 : (q : Int) < 20 := by omega
            have hq5 : (0 : Int) ≤ t := by omega
            have hq6 : (t : Int) < X.length := by omega
            have hq7 : (q : Int) < k := by omega
            clear hb4 hA4 hR4 hV4 hx0 hx1
            go_wp2_with fail
            go_quiet (fail)
            go_wp2_with fail
            go_roundg (l0.length - (i + 1))
            case measure => omega
            case rel =>
              have hbd := pw_below_drewN (Below.refl w4.heap.size w4) nq
              have hA5 := setCell_blk (j := q) ((hbd.block gA (blk_lt' HA4.out)).trans HA4.out) (.int .i64 ((t : Int) + 1))
              have e5 : (nums .i64 aL).set q (.int .i64 ((t : Int) + 1)) = nums .i64 (aL.set q ((t : Int) + 1)) := by simp [nums, List.map_set]
              rw [e5] at hA5
              have hc5 : Ch w4 ((w4.drewN nq).setCell ⟨gA, q, none⟩ (.int .i64 ((t : Int) + 1))) (fun g => g = gA) := (Ch.of_below hbd _).setCell _ _ rfl
              refine ⟨i + 1, aL.set q ((t : Int) + 1), by omega, by go_num, ⟨by rw [List.length_set]; exact HAL.out⟩, ⟨fun j hj => ?_⟩, ⟨hA5⟩, ⟨HC.out.trans ((Ch.of_below HB4.out (fun g => g = gA)).trans hc5 (fun _ _ h => h)) (fun _ _ h => h)⟩⟩
              rw [getD_set _ _ _ _ _ (by rw [HAL.out]; exact hq20), onlyL_step l0 i hlt2, ← HSS.out, HQ.out]
              by_cases hjq : j = q
              · rw [if_pos hjq, if_pos (by rw [hjq]), hjq, ← HT.out]
                omega
              · rw [if_neg hjq, if_neg (by omega), HAE.out j hj]
                omega
          · obtain rfl : i = l0.length := by omega
            have HBw := Aside0.mk (Below.ch HB.out HC.out HB.out.size (fun b hb => by have := HGL.out; omega))
            have ho1 := onlyL_none l0 k (by omega)
            have HO1 := Aside0.mk ho1
            clear ho1
            go_wp2_with fail
            refine (only A0 c0 l0 k k _ (Kd.C_below HR0.out HBw.out) HG0.out (by omega) (by omega)).mono ?_
            rintro e w4 ⟨v4, X4, rfl, hv4, HX4, hb4⟩
            obtain ⟨A4, c4, rfl, hc4, _⟩ := hv4.reads
            have hx4 : X4 = [] := by rw [HX4.out]; exact HO1.out
            have HB4 := Aside0.mk (two_and' _ _ _ HBw.out hb4)
            clear hv4 hb4 HX4 hc4
            subst hx4
            go_wp2_with fail
            refine (only A0 c0 l0 0 0 _ (Kd.C_below HR0.out HB4.out) HG0.out (by omega) (by omega)).mono ?_
            rintro e w5 ⟨v5, X5, rfl, hv5, HX5, hb5⟩
            obtain ⟨A5, c5, rfl, hc5, _⟩ := hv5.reads
            have hx5 : X5 = [] := by rw [HX5.out]; exact onlyL_zero _
            have HB5 := Aside0.mk (two_and' _ _ _ HB4.out hb5)
            clear hv5 hb5 HX5 hc5
            subst hx5
            go_wp2_with fail
            refine (awake8 _).mono ?_
            rintro e w6 ⟨rfl, hb6⟩
            have HB6 := Aside0.mk (two_and' _ _ _ HB5.out hb6)
            clear hb6
            go_wp2_with fail
            go_ret
            exact ⟨rfl, HB6.out⟩
end Go.Proofs.Ytocooepdibgelaa.K
