/- The statement JobHomes. -/
import Derived.Test.YtckjgfbfjjiikaaJ8
import Derived.Deep.RegionHeld3
set_option linter.unusedVariables false
set_option linter.unusedSimpArgs false
namespace Go.Proofs.Ytckjgfbfjjiikaa.K
open Go.RowKit Go.Proofs.YtckjgfbfjjiikaaW.PrintWords Go.Proofs.YtckjgfbfjjiikaaW.PrintLast Go.Proofs.YtckjgfbfjjiikaaW.PrintMore Go.Proofs.Ytckjgfbfjjiikaa.U Go.Proofs.Ytckjgfbfjjiikaa.T

/-- A configuration's box stands at g; what stood ahead is as it was. -/
def Held (W : World) (g : Nat) (j : JobD) (wk tr tmo : Int) (A1 A2 A3 A4 A5 : Option Addr) (c1 c2 c3 c4 c5 : Nat) (w' : World) : Prop := Below W.heap.size W w' ∧ w'.heap[g]? = some (.cells ([.slice A1 j.splits.length c1, .int .i64 j.parts, .slice A2 j.map.length c2, .slice A3 j.combine.length c3, .slice A4 j.reduce.length c4, .int .i64 j.chunk, .int .i64 j.window, .int .i64 j.fuel, .slice A5 j.marks.length c5, .int .i64 wk, .int .i64 tr, .int .i64 tmo] : List Value).toArray 28 (0, 0))
section
variable {W w w' : World} {g : Nat} {j : JobD} {wk tr tmo : Int} {A1 A2 A3 A4 A5 : Option Addr} {c1 c2 c3 c4 c5 : Nat}
theorem Held.below (h : Held W g j wk tr tmo A1 A2 A3 A4 A5 c1 c2 c3 c4 c5 w) (hb : Below w.heap.size w w') : Held W g j wk tr tmo A1 A2 A3 A4 A5 c1 c2 c3 c4 c5 w' := ⟨two_andj _ _ _ h.1 hb, (hb.block g (blk_lt' h.2)).trans h.2⟩
theorem held_all (h : Held W g j wk tr tmo A1 A2 A3 A4 A5 c1 c2 c3 c4 c5 w') : (w'.cell? ⟨g, 0, none⟩ = some (.slice A1 j.splits.length c1) ∧ w'.cell? ⟨g, 1, none⟩ = some (.int .i64 j.parts) ∧ w'.cell? ⟨g, 2, none⟩ = some (.slice A2 j.map.length c2) ∧ w'.cell? ⟨g, 3, none⟩ = some (.slice A3 j.combine.length c3) ∧ w'.cell? ⟨g, 4, none⟩ = some (.slice A4 j.reduce.length c4) ∧ w'.cell? ⟨g, 5, none⟩ = some (.int .i64 j.chunk) ∧ w'.cell? ⟨g, 6, none⟩ = some (.int .i64 j.window) ∧ w'.cell? ⟨g, 7, none⟩ = some (.int .i64 j.fuel) ∧ w'.cell? ⟨g, 8, none⟩ = some (.slice A5 j.marks.length c5) ∧ w'.cell? ⟨g, 9, none⟩ = some (.int .i64 wk) ∧ w'.cell? ⟨g, 10, none⟩ = some (.int .i64 tr) ∧ w'.cell? ⟨g, 11, none⟩ = some (.int .i64 tmo)) ∧ Held W g j wk tr tmo A1 A2 A3 A4 A5 c1 c2 c3 c4 c5 w' := ⟨twelve h.2, h⟩
theorem Held.other (h : Held W g j wk tr tmo A1 A2 A3 A4 A5 c1 c2 c3 c4 c5 w) {gh : Nat} (hg : W.heap.size ≤ gh) (hne : gh ≠ g) (k : Nat) (v : Value) : Held W g j wk tr tmo A1 A2 A3 A4 A5 c1 c2 c3 c4 c5 (w.setCell ⟨gh, k, none⟩ v) :=
  have hc : Ch w (w.setCell ⟨gh, k, none⟩ v) (fun b => b = gh) := (Ch.refl w _).setCell _ _ rfl
  ⟨Below.ch h.1 hc h.1.size (fun b hb => by rw [hb]; exact hg), hc.blk h.2 (fun e => hne e.symm)⟩
end
set_option maxRecDepth 100000 in
set_option maxHeartbeats 1600000 in
theorem refHome (j : JobD) (wk tr tmo : Int) (A1 A2 A3 A4 A5 : Option Addr) (c1 c2 c3 c4 c5 : Nat) (w : World) (hj : JobC w j A1 A2 A3 A4 A5 c1 c2 c3 c4 c5) (part : Int) (hp1 : 1 ≤ j.parts) (hp2 : j.parts ≤ 4) (hw1 : 1 ≤ wk) (hw2 : wk ≤ 4) (v : Int) (hv : v = homeN true j.parts wk part) :
    Calls Try.prog 23 #[.agg #[.slice A1 j.splits.length c1, .int .i64 j.parts, .slice A2 j.map.length c2, .slice A3 j.combine.length c3, .slice A4 j.reduce.length c4, .int .i64 j.chunk, .int .i64 j.window, .int .i64 j.fuel, .slice A5 j.marks.length c5, .int .i64 wk, .int .i64 tr, .int .i64 tmo], .int .i64 part] w fun e w' => e = .returned (.int .i64 v) ∧ Below w.heap.size w w' := by
  have HV := Aside0.mk hv
  clear hv
  have HJ := Aside0.mk hj
  have hmx1 := Kd.C_max hj.s
  obtain ⟨wb, hwb⟩ : ∃ wb, wb = w.alloc (.cells #[.slice A1 j.splits.length c1, .int .i64 j.parts, .slice A2 j.map.length c2, .slice A3 j.combine.length c3, .slice A4 j.reduce.length c4, .int .i64 j.chunk, .int .i64 j.window, .int .i64 j.fuel, .slice A5 j.marks.length c5, .int .i64 wk, .int .i64 tr, .int .i64 tmo] 28) := ⟨_, rfl⟩
  obtain ⟨g, hg⟩ : ∃ g, g = w.heap.size := ⟨_, rfl⟩
  have hba := (Below.refl w.heap.size w).alloc (Nat.le_refl _) (.cells #[.slice A1 j.splits.length c1, .int .i64 j.parts, .slice A2 j.map.length c2, .slice A3 j.combine.length c3, .slice A4 j.reduce.length c4, .int .i64 j.chunk, .int .i64 j.window, .int .i64 j.fuel, .slice A5 j.marks.length c5, .int .i64 wk, .int .i64 tr, .int .i64 tmo] 28)
  rw [← hwb] at hba
  have hbk : wb.heap[g]? = some (.cells ([.slice A1 j.splits.length c1, .int .i64 j.parts, .slice A2 j.map.length c2, .slice A3 j.combine.length c3, .slice A4 j.reduce.length c4, .int .i64 j.chunk, .int .i64 j.window, .int .i64 j.fuel, .slice A5 j.marks.length c5, .int .i64 wk, .int .i64 tr, .int .i64 tmo]).toArray 28 (0, 0)) := by rw [hwb, hg]; exact alloc_at w _
  have HWB := Aside0.mk hwb
  have HG := Aside0.mk hg
  have HB := Aside0.mk hba
  have HBK := Aside0.mk hbk
  have hJb := HJ.out.below hba
  have HJb := Aside0.mk hJb
  have huc := Try.underlying28
  have huj := Try.underlying26
  clear hwb hg hba hbk hj hJb
  have q1 : wb.cell? ⟨g, 1, none⟩ = some (.int .i64 j.parts) := cell_of_blk HBK.out
  have q9 : wb.cell? ⟨g, 9, none⟩ = some (.int .i64 wk) := cell_of_blk HBK.out
  by_cases h1 : part < 0
  · have HVM : Aside0 (v = 0) := ⟨by rw [HV.out, homeN, if_neg (fun h => by omega)]⟩
    go_enter Try.func23, Try.ntmps23
    go_upto_region 1 with (fail)
    rw [← HWB.out, ← HG.out]
    go_wp2_with fail
    go_ret
    exact ⟨by rw [HVM.out]; rfl, HB.out⟩
  · by_cases h2 : j.parts ≤ part
    · have HVM : Aside0 (v = 0) := ⟨by rw [HV.out, homeN, if_neg (fun h => by omega)]⟩
      go_enter Try.func23, Try.ntmps23
      go_upto_region 1 with (fail)
      rw [← HWB.out, ← HG.out]
      go_wp2_with fail
      go_ret
      exact ⟨by rw [HVM.out]; rfl, HB.out⟩
    · have hz : (wk == 0) = false := beq_eq_false_iff_ne.2 (by omega)
      have hm0 := Int.emod_nonneg part (show wk ≠ 0 by omega)
      have hm1 := Int.emod_lt_of_pos part (show 0 < wk by omega)
      obtain ⟨m, hm⟩ : ∃ m, m = part % wk := ⟨_, rfl⟩
      rw [← hm] at hm0 hm1
      have htm : part.tmod wk = m := by rw [hm]; exact Int.tmod_eq_emod_of_nonneg (by omega)
      have HVM : Aside0 (v = 1 + m) := ⟨by rw [HV.out, homeN, if_pos ⟨rfl, by omega, by omega⟩, hm]⟩
      have hwm : wrap64 m = m := by unfold wrap64; omega
      have hwm2 : IntKind.i64.wrap m = m := IntWalk.i64_in _ (by omega)
      clear hm
      go_enter Try.func23, Try.ntmps23
      go_upto_region 1 with (fail)
      rw [← HWB.out, ← HG.out]
      go_wp2_with fail
      go_ret
      exact ⟨by rw [HVM.out]; rfl, HB.out⟩
set_option maxRecDepth 100000 in
set_option maxHeartbeats 1600000 in
theorem refTurn (j : JobD) (wk tr tmo : Int) (A1 A2 A3 A4 A5 : Option Addr) (c1 c2 c3 c4 c5 : Nat) (w : World) (hj : JobC w j A1 A2 A3 A4 A5 c1 c2 c3 c4 c5) (n : Int) (hw1 : 1 ≤ wk) (hw2 : wk ≤ 4) (v : Int) (hv : v = turnN true wk n) :
    Calls Try.prog 24 #[.agg #[.slice A1 j.splits.length c1, .int .i64 j.parts, .slice A2 j.map.length c2, .slice A3 j.combine.length c3, .slice A4 j.reduce.length c4, .int .i64 j.chunk, .int .i64 j.window, .int .i64 j.fuel, .slice A5 j.marks.length c5, .int .i64 wk, .int .i64 tr, .int .i64 tmo], .int .i64 n] w fun e w' => e = .returned (.int .i64 v) ∧ Below w.heap.size w w' := by
  have HV := Aside0.mk hv
  clear hv
  have HJ := Aside0.mk hj
  have hmx1 := Kd.C_max hj.s
  obtain ⟨wb, hwb⟩ : ∃ wb, wb = w.alloc (.cells #[.slice A1 j.splits.length c1, .int .i64 j.parts, .slice A2 j.map.length c2, .slice A3 j.combine.length c3, .slice A4 j.reduce.length c4, .int .i64 j.chunk, .int .i64 j.window, .int .i64 j.fuel, .slice A5 j.marks.length c5, .int .i64 wk, .int .i64 tr, .int .i64 tmo] 28) := ⟨_, rfl⟩
  obtain ⟨g, hg⟩ : ∃ g, g = w.heap.size := ⟨_, rfl⟩
  have hba := (Below.refl w.heap.size w).alloc (Nat.le_refl _) (.cells #[.slice A1 j.splits.length c1, .int .i64 j.parts, .slice A2 j.map.length c2, .slice A3 j.combine.length c3, .slice A4 j.reduce.length c4, .int .i64 j.chunk, .int .i64 j.window, .int .i64 j.fuel, .slice A5 j.marks.length c5, .int .i64 wk, .int .i64 tr, .int .i64 tmo] 28)
  rw [← hwb] at hba
  have hbk : wb.heap[g]? = some (.cells ([.slice A1 j.splits.length c1, .int .i64 j.parts, .slice A2 j.map.length c2, .slice A3 j.combine.length c3, .slice A4 j.reduce.length c4, .int .i64 j.chunk, .int .i64 j.window, .int .i64 j.fuel, .slice A5 j.marks.length c5, .int .i64 wk, .int .i64 tr, .int .i64 tmo]).toArray 28 (0, 0)) := by rw [hwb, hg]; exact alloc_at w _
  have HWB := Aside0.mk hwb
  have HG := Aside0.mk hg
  have HB := Aside0.mk hba
  have HBK := Aside0.mk hbk
  have hJb := HJ.out.below hba
  have HJb := Aside0.mk hJb
  have huc := Try.underlying28
  have huj := Try.underlying26
  clear hwb hg hba hbk hj hJb
  have q1 : wb.cell? ⟨g, 1, none⟩ = some (.int .i64 j.parts) := cell_of_blk HBK.out
  have q9 : wb.cell? ⟨g, 9, none⟩ = some (.int .i64 wk) := cell_of_blk HBK.out
  obtain ⟨k0, hk0⟩ : ∃ k0 : Int, k0 = n % 18446744073709551616 := ⟨_, rfl⟩
  obtain ⟨m, hm⟩ : ∃ m : Int, m = k0 % wk := ⟨_, rfl⟩
  have hm0 : 0 ≤ m := by rw [hm]; exact Int.emod_nonneg _ (by omega)
  have hm1 : m < wk := by rw [hm]; exact Int.emod_lt_of_pos _ (by omega)
  have hu1 : IntKind.u64.wrap n = k0 := by rw [u64_wrap, hk0]
  have hu2 : IntKind.u64.wrap wk = wk := by rw [u64_wrap]; omega
  have hu3 : k0.tmod wk = m := by rw [hm]; exact Int.tmod_eq_emod_of_nonneg (by omega)
  have hu4 : IntKind.u64.wrap m = m := by rw [u64_wrap]; omega
  have hu5 : IntKind.i64.wrap m = m := IntWalk.i64_in _ (by omega)
  have hu6 : wrap64 m = m := by unfold wrap64; omega
  have hz : (wk == 0) = false := beq_eq_false_iff_ne.2 (by omega)
  have HVM : Aside0 (v = 1 + m) := ⟨by rw [HV.out, turnN, if_pos rfl, ← hk0, ← hm]⟩
  clear hk0 hm
  go_enter Try.func24, Try.ntmps24
  go_upto_region 1 with (fail)
  rw [← HWB.out, ← HG.out]
  go_wp2_with fail
  go_ret
  first
    | exact ⟨by rw [HVM.out]; rfl, HB.out⟩
    | exact ⟨by rw [HVM.out]; simp [hu1, hu2, hu3, hu4, hu5, hu6], HB.out⟩
theorem cell_boolj {w : World} {g j : Nat} {cs : List Bool} {t : TypeId} {fr : Nat × Nat} (h : w.heap[g]? = some (.cells (cs.map Value.bool).toArray t fr)) (hj : j < cs.length) : w.cell? ⟨g, j, none⟩ = some (.bool (cs.getD j false)) := by
  rw [cell_of_blk h]
  simp [List.getD_eq_getElem?_getD, hj]
theorem getD_setj {α : Type} (V : List α) (q j : Nat) (v d : α) (h : q < V.length) : (V.set q v).getD j d = if j = q then v else V.getD j d := by
  simp only [List.getD_eq_getElem?_getD, List.getElem?_set]
  by_cases hj : q = j
  · subst hj; simp [h]
  · rw [if_neg hj, if_neg (fun e => hj e.symm)]
theorem mod_ne (m : Nat) (n : Int) (t i : Nat) (hm : m ≤ 4) (hi : i < m) (ht : t < i) (hn : 0 ≤ n) : (n + t) % m ≠ (n + i) % m := by
  rcases (show m = 2 ∨ m = 3 ∨ m = 4 by omega) with rfl | rfl | rfl <;> omega
theorem homeH {W : World} {g : Nat} {j : JobD} {wk tr tmo : Int} {A1 A2 A3 A4 A5 : Option Addr} {c1 c2 c3 c4 c5 : Nat} (hj : JobC W j A1 A2 A3 A4 A5 c1 c2 c3 c4 c5) (w : World) (h : Held W g j wk tr tmo A1 A2 A3 A4 A5 c1 c2 c3 c4 c5 w) (part : Int) (r : Bool) (hr : r = true ↔ CfgMay ⟨j, wk, tr, tmo⟩) (v : Int) (hv : v = homeN r j.parts wk part) :
    Calls Try.prog 22 #[.agg #[.slice A1 j.splits.length c1, .int .i64 j.parts, .slice A2 j.map.length c2, .slice A3 j.combine.length c3, .slice A4 j.reduce.length c4, .int .i64 j.chunk, .int .i64 j.window, .int .i64 j.fuel, .slice A5 j.marks.length c5, .int .i64 wk, .int .i64 tr, .int .i64 tmo], .int .i64 part] w fun e w' => e = .returned (.int .i64 v) ∧ Held W g j wk tr tmo A1 A2 A3 A4 A5 c1 c2 c3 c4 c5 w' :=
  (home j wk tr tmo A1 A2 A3 A4 A5 c1 c2 c3 c4 c5 w (hj.below h.1) part r hr v hv).mono fun e w' hh => ⟨hh.1, h.below hh.2⟩
theorem turnH {W : World} {g : Nat} {j : JobD} {wk tr tmo : Int} {A1 A2 A3 A4 A5 : Option Addr} {c1 c2 c3 c4 c5 : Nat} (hj : JobC W j A1 A2 A3 A4 A5 c1 c2 c3 c4 c5) (w : World) (h : Held W g j wk tr tmo A1 A2 A3 A4 A5 c1 c2 c3 c4 c5 w) (n : Int) (r : Bool) (hr : r = true ↔ CfgMay ⟨j, wk, tr, tmo⟩) (v : Int) (hv : v = turnN r wk n) :
    Calls Try.prog 21 #[.agg #[.slice A1 j.splits.length c1, .int .i64 j.parts, .slice A2 j.map.length c2, .slice A3 j.combine.length c3, .slice A4 j.reduce.length c4, .int .i64 j.chunk, .int .i64 j.window, .int .i64 j.fuel, .slice A5 j.marks.length c5, .int .i64 wk, .int .i64 tr, .int .i64 tmo], .int .i64 n] w fun e w' => e = .returned (.int .i64 v) ∧ Held W g j wk tr tmo A1 A2 A3 A4 A5 c1 c2 c3 c4 c5 w' :=
  (turn j wk tr tmo A1 A2 A3 A4 A5 c1 c2 c3 c4 c5 w (hj.below h.1) n r hr v hv).mono fun e w' hh => ⟨hh.1, h.below hh.2⟩
theorem refHomeH {W : World} {g : Nat} {j : JobD} {wk tr tmo : Int} {A1 A2 A3 A4 A5 : Option Addr} {c1 c2 c3 c4 c5 : Nat} (hj : JobC W j A1 A2 A3 A4 A5 c1 c2 c3 c4 c5) (w : World) (h : Held W g j wk tr tmo A1 A2 A3 A4 A5 c1 c2 c3 c4 c5 w) (part : Int) (hp1 : 1 ≤ j.parts) (hp2 : j.parts ≤ 4) (hw1 : 1 ≤ wk) (hw2 : wk ≤ 4) (v : Int) (hv : v = homeN true j.parts wk part) :
    Calls Try.prog 23 #[.agg #[.slice A1 j.splits.length c1, .int .i64 j.parts, .slice A2 j.map.length c2, .slice A3 j.combine.length c3, .slice A4 j.reduce.length c4, .int .i64 j.chunk, .int .i64 j.window, .int .i64 j.fuel, .slice A5 j.marks.length c5, .int .i64 wk, .int .i64 tr, .int .i64 tmo], .int .i64 part] w fun e w' => e = .returned (.int .i64 v) ∧ Held W g j wk tr tmo A1 A2 A3 A4 A5 c1 c2 c3 c4 c5 w' :=
  (refHome j wk tr tmo A1 A2 A3 A4 A5 c1 c2 c3 c4 c5 w (hj.below h.1) part hp1 hp2 hw1 hw2 v hv).mono fun e w' hh => ⟨hh.1, h.below hh.2⟩
theorem refTurnH {W : World} {g : Nat} {j : JobD} {wk tr tmo : Int} {A1 A2 A3 A4 A5 : Option Addr} {c1 c2 c3 c4 c5 : Nat} (hj : JobC W j A1 A2 A3 A4 A5 c1 c2 c3 c4 c5) (w : World) (h : Held W g j wk tr tmo A1 A2 A3 A4 A5 c1 c2 c3 c4 c5 w) (n : Int) (hw1 : 1 ≤ wk) (hw2 : wk ≤ 4) (v : Int) (hv : v = turnN true wk n) :
    Calls Try.prog 24 #[.agg #[.slice A1 j.splits.length c1, .int .i64 j.parts, .slice A2 j.map.length c2, .slice A3 j.combine.length c3, .slice A4 j.reduce.length c4, .int .i64 j.chunk, .int .i64 j.window, .int .i64 j.fuel, .slice A5 j.marks.length c5, .int .i64 wk, .int .i64 tr, .int .i64 tmo], .int .i64 n] w fun e w' => e = .returned (.int .i64 v) ∧ Held W g j wk tr tmo A1 A2 A3 A4 A5 c1 c2 c3 c4 c5 w' :=
  (refTurn j wk tr tmo A1 A2 A3 A4 A5 c1 c2 c3 c4 c5 w (hj.below h.1) n hw1 hw2 v hv).mono fun e w' hh => ⟨hh.1, h.below hh.2⟩
theorem awakeH {W : World} {g : Nat} {j : JobD} {wk tr tmo : Int} {A1 A2 A3 A4 A5 : Option Addr} {c1 c2 c3 c4 c5 : Nat} (w : World) (h : Held W g j wk tr tmo A1 A2 A3 A4 A5 c1 c2 c3 c4 c5 w) : Calls Try.prog 15 #[] w fun e w' => e = .returned (.bool true) ∧ Held W g j wk tr tmo A1 A2 A3 A4 A5 c1 c2 c3 c4 c5 w' :=
  (awake12 w).mono fun e w' hh => ⟨hh.1, h.below hh.2⟩
set_option maxRecDepth 100000 in
set_option maxHeartbeats 6400000 in
theorem jobHomes_in (j : JobD) (wk tr tmo : Int) (A1 A2 A3 A4 A5 : Option Addr) (c1 c2 c3 c4 c5 : Nat) (W : World) (hj : JobC W j A1 A2 A3 A4 A5 c1 c2 c3 c4 c5) (hgs : ∀ l ∈ j.splits, ∀ x ∈ l, GPair x) (part n : Int) :
    Calls Try.prog 4 #[.agg #[.slice A1 j.splits.length c1, .int .i64 j.parts, .slice A2 j.map.length c2, .slice A3 j.combine.length c3, .slice A4 j.reduce.length c4, .int .i64 j.chunk, .int .i64 j.window, .int .i64 j.fuel, .slice A5 j.marks.length c5, .int .i64 wk, .int .i64 tr, .int .i64 tmo], .int .i64 part, .int .i64 n] W fun e w' => e = .returned (.bool true) ∧ Below W.heap.size W w' := by
  have HGS := Aside0.mk hgs
  clear hgs
  have HJ := Aside0.mk hj
  have hmx1 := Kd.C_max hj.s
  obtain ⟨wb, hwb⟩ : ∃ wb, wb = W.alloc (.cells #[.slice A1 j.splits.length c1, .int .i64 j.parts, .slice A2 j.map.length c2, .slice A3 j.combine.length c3, .slice A4 j.reduce.length c4, .int .i64 j.chunk, .int .i64 j.window, .int .i64 j.fuel, .slice A5 j.marks.length c5, .int .i64 wk, .int .i64 tr, .int .i64 tmo] 28) := ⟨_, rfl⟩
  obtain ⟨g, hg⟩ : ∃ g, g = W.heap.size := ⟨_, rfl⟩
  have hba := (Below.refl W.heap.size W).alloc (Nat.le_refl _) (.cells #[.slice A1 j.splits.length c1, .int .i64 j.parts, .slice A2 j.map.length c2, .slice A3 j.combine.length c3, .slice A4 j.reduce.length c4, .int .i64 j.chunk, .int .i64 j.window, .int .i64 j.fuel, .slice A5 j.marks.length c5, .int .i64 wk, .int .i64 tr, .int .i64 tmo] 28)
  rw [← hwb] at hba
  have hbk : wb.heap[g]? = some (.cells ([.slice A1 j.splits.length c1, .int .i64 j.parts, .slice A2 j.map.length c2, .slice A3 j.combine.length c3, .slice A4 j.reduce.length c4, .int .i64 j.chunk, .int .i64 j.window, .int .i64 j.fuel, .slice A5 j.marks.length c5, .int .i64 wk, .int .i64 tr, .int .i64 tmo]).toArray 28 (0, 0)) := by rw [hwb, hg]; exact alloc_at W _
  have HWB := Aside0.mk hwb
  have HG := Aside0.mk hg
  have HB := Aside0.mk hba
  have HBK := Aside0.mk hbk
  have hJb := HJ.out.below hba
  have HJb := Aside0.mk hJb
  have huc := Try.underlying28
  have huj := Try.underlying26
  clear hwb hg hba hbk hj hJb
  have HH : Aside0 (Held W g j wk tr tmo A1 A2 A3 A4 A5 c1 c2 c3 c4 c5 wb) := ⟨HB.out, HBK.out⟩
  obtain ⟨rc, hrc⟩ := bool_of (CfgMay ⟨j, wk, tr, tmo⟩)
  have HRC := Aside0.mk hrc
  clear hrc
  go_enter Try.func4, Try.ntmps4
  go_upto_region 1 with (fail)
  rw [← HWB.out, ← HG.out]
  have q0 : wb.cell? ⟨g, 0, none⟩ = some (.slice A1 j.splits.length c1) := cell_of_blk HBK.out
  have q1 : wb.cell? ⟨g, 1, none⟩ = some (.int .i64 j.parts) := cell_of_blk HBK.out
  have q2 : wb.cell? ⟨g, 2, none⟩ = some (.slice A2 j.map.length c2) := cell_of_blk HBK.out
  have q3 : wb.cell? ⟨g, 3, none⟩ = some (.slice A3 j.combine.length c3) := cell_of_blk HBK.out
  have q4 : wb.cell? ⟨g, 4, none⟩ = some (.slice A4 j.reduce.length c4) := cell_of_blk HBK.out
  have q5 : wb.cell? ⟨g, 5, none⟩ = some (.int .i64 j.chunk) := cell_of_blk HBK.out
  have q6 : wb.cell? ⟨g, 6, none⟩ = some (.int .i64 j.window) := cell_of_blk HBK.out
  have q7 : wb.cell? ⟨g, 7, none⟩ = some (.int .i64 j.fuel) := cell_of_blk HBK.out
  have q8 : wb.cell? ⟨g, 8, none⟩ = some (.slice A5 j.marks.length c5) := cell_of_blk HBK.out
  go_wp2_with fail
  clear q0 q1 q2 q3 q4 q5 q6 q7 q8
  refine (greatJob j A1 A2 A3 A4 A5 c1 c2 c3 c4 c5 _ HJb.out HGS.out).mono ?_
  rintro e w1 ⟨⟨r, rfl, _⟩, hb1⟩
  have HH1 := Aside0.mk (HH.out.below hb1)
  clear hb1 HB HBK HJb HH
  cases r with
  | true =>
    go_wp2_with fail
    refine (awakeH _ HH1.out).mono ?_
    rintro e w6 ⟨rfl, hH6⟩
    go_wp2_with fail
    go_ret
    exact ⟨rfl, hH6.1⟩
  | false =>
    have q0 : w1.cell? ⟨g, 0, none⟩ = some (.slice A1 j.splits.length c1) := cell_of_blk HH1.out.2
    have q1 : w1.cell? ⟨g, 1, none⟩ = some (.int .i64 j.parts) := cell_of_blk HH1.out.2
    have q2 : w1.cell? ⟨g, 2, none⟩ = some (.slice A2 j.map.length c2) := cell_of_blk HH1.out.2
    have q3 : w1.cell? ⟨g, 3, none⟩ = some (.slice A3 j.combine.length c3) := cell_of_blk HH1.out.2
    have q4 : w1.cell? ⟨g, 4, none⟩ = some (.slice A4 j.reduce.length c4) := cell_of_blk HH1.out.2
    have q5 : w1.cell? ⟨g, 5, none⟩ = some (.int .i64 j.chunk) := cell_of_blk HH1.out.2
    have q6 : w1.cell? ⟨g, 6, none⟩ = some (.int .i64 j.window) := cell_of_blk HH1.out.2
    have q7 : w1.cell? ⟨g, 7, none⟩ = some (.int .i64 j.fuel) := cell_of_blk HH1.out.2
    have q8 : w1.cell? ⟨g, 8, none⟩ = some (.slice A5 j.marks.length c5) := cell_of_blk HH1.out.2
    have q9 : w1.cell? ⟨g, 9, none⟩ = some (.int .i64 wk) := cell_of_blk HH1.out.2
    have q10 : w1.cell? ⟨g, 10, none⟩ = some (.int .i64 tr) := cell_of_blk HH1.out.2
    have q11 : w1.cell? ⟨g, 11, none⟩ = some (.int .i64 tmo) := cell_of_blk HH1.out.2
    go_wp2_with fail
    clear q0 q1 q2 q3 q4 q5 q6 q7 q8 q9 q10 q11
    refine (cfgMay j wk tr tmo A1 A2 A3 A4 A5 c1 c2 c3 c4 c5 _ (HJ.out.below HH1.out.1) rc HRC.out).mono ?_
    rintro e w2 ⟨rfl, hb2⟩
    have HH2 := Aside0.mk (HH1.out.below hb2)
    clear hb2 HH1
    cases rc with
    | false =>
      go_wp2_with fail
      refine (awakeH _ HH2.out).mono ?_
      rintro e w6 ⟨rfl, hH6⟩
      go_wp2_with fail
      go_ret
      exact ⟨rfl, hH6.1⟩
    | true =>
      have hcm := HRC.out.1 (by simp)
      have hp1 : 1 ≤ j.parts := hcm.job.parts.1
      have hp2 : j.parts ≤ 4 := hcm.job.parts.2
      have hw1 : 1 ≤ wk := hcm.workers.1
      have hw2 : wk ≤ 4 := hcm.workers.2
      clear hcm
      obtain ⟨n1, hn1⟩ : ∃ q, q = lowN n 1099511627776 := ⟨_, rfl⟩
      have rn : 0 ≤ n1 ∧ n1 < 1099511627776 := by rw [hn1]; exact lowN_range _ _ (by omega)
      obtain ⟨rn0, rn1⟩ := rn
      have HN1 := Aside0.mk hn1
      clear hn1
      go_wp2_with fail
      refine (low n 1099511627776 _ (by omega) (by omega)).mono ?_
      rintro e w2 ⟨rfl, rfl⟩
      rw [← HN1.out]
      obtain ⟨gh, hgh⟩ : ∃ gh, gh = w2.heap.size := ⟨_, rfl⟩
      obtain ⟨w3, hw3⟩ : ∃ w3, w3 = w2.alloc (.cells #[.bool false, .bool false, .bool false, .bool false, .bool false] 33) := ⟨_, rfl⟩
      have hb3 := (Below.refl w2.heap.size w2).alloc (Nat.le_refl _) (.cells #[.bool false, .bool false, .bool false, .bool false, .bool false] 33)
      rw [← hw3] at hb3
      have HH3 := Aside0.mk (HH2.out.below hb3)
      have HGH : Aside0 (W.heap.size ≤ gh ∧ gh ≠ g) := ⟨by rw [hgh]; exact ⟨HH2.out.1.size, fun e => by have := blk_lt' HH2.out.2; omega⟩⟩
      have HHB : Aside0 (w3.heap[gh]? = some (.cells (([false, false, false, false, false] : List Bool).map Value.bool).toArray 33 (0, 0))) := ⟨by rw [hw3, hgh]; exact alloc_at w2 _⟩
      have HW3 := Aside0.mk hw3
      have HGHE := Aside0.mk hgh
      clear hb3 hw3 hgh
      go_upto_region 5 with (fail)
      rw [← HGHE.out, ← HW3.out]
      clear HW3 HGHE
      obtain ⟨m, rfl⟩ : ∃ m : Nat, wk = m := ⟨wk.toNat, by omega⟩
      go_wp2_with fail
      go_loopg [8, 9] m (fun kq v8 v9 w' => ∃ (i : Nat) (hL : List Bool), i + kq = m ∧ v8 = .int .i64 i ∧ Aside0 (hL.length = 5) ∧ Aside0 (∀ q : Nat, q < m → hL.getD (1 + q) false = true → ∃ t : Nat, t < i ∧ (n1 + t) % m = q) ∧ Aside0 (w'.heap[gh]? = some (.cells (hL.map Value.bool).toArray 33 (0, 0))) ∧ Aside0 (Held W g j m tr tmo A1 A2 A3 A4 A5 c1 c2 c3 c4 c5 w'))
      case atStart => exact ⟨0, [false, false, false, false, false], by omega, rfl, ⟨rfl⟩, ⟨fun q hq h => by
        exfalso
        have : 1 + q < 5 := by omega
        rcases (show q = 0 ∨ q = 1 ∨ q = 2 ∨ q = 3 by omega) with rfl | rfl | rfl | rfl <;> cases h⟩, HHB, HH3⟩
      case round =>
        clear HH2 HH3 HHB
        obtain ⟨i, hL, hi, rfl, HLL, HLP, HHB, HHw⟩ := hrel
        have q0 : wr.cell? ⟨g, 0, none⟩ = some (.slice A1 j.splits.length c1) := cell_of_blk HHw.out.2
        have q1 : wr.cell? ⟨g, 1, none⟩ = some (.int .i64 j.parts) := cell_of_blk HHw.out.2
        have q2 : wr.cell? ⟨g, 2, none⟩ = some (.slice A2 j.map.length c2) := cell_of_blk HHw.out.2
        have q3 : wr.cell? ⟨g, 3, none⟩ = some (.slice A3 j.combine.length c3) := cell_of_blk HHw.out.2
        have q4 : wr.cell? ⟨g, 4, none⟩ = some (.slice A4 j.reduce.length c4) := cell_of_blk HHw.out.2
        have q5 : wr.cell? ⟨g, 5, none⟩ = some (.int .i64 j.chunk) := cell_of_blk HHw.out.2
        have q6 : wr.cell? ⟨g, 6, none⟩ = some (.int .i64 j.window) := cell_of_blk HHw.out.2
        have q7 : wr.cell? ⟨g, 7, none⟩ = some (.int .i64 j.fuel) := cell_of_blk HHw.out.2
        have q8 : wr.cell? ⟨g, 8, none⟩ = some (.slice A5 j.marks.length c5) := cell_of_blk HHw.out.2
        have q9 : wr.cell? ⟨g, 9, none⟩ = some (.int .i64 (m : Int)) := cell_of_blk HHw.out.2
        have q10 : wr.cell? ⟨g, 10, none⟩ = some (.int .i64 tr) := cell_of_blk HHw.out.2
        have q11 : wr.cell? ⟨g, 11, none⟩ = some (.int .i64 tmo) := cell_of_blk HHw.out.2
        by_cases hlt : i < m
        · obtain ⟨q, hq⟩ : ∃ q : Nat, (n1 + i) % m = q := ⟨((n1 + i) % m).toNat, by have := Int.emod_nonneg (n1 + i) (show (m : Int) ≠ 0 by omega); omega⟩
          have hqm : q < m := by have := Int.emod_lt_of_pos (n1 + i) (show 0 < (m : Int) by omega); omega
          obtain ⟨kk, hkk⟩ : ∃ kk : Nat, kk = 1 + q := ⟨_, rfl⟩
          have HVK : Aside0 ((kk : Int) = turnN true m (n1 + i)) := ⟨by rw [turnN, if_pos rfl, Int.emod_eq_of_lt (a := n1 + i) (b := 18446744073709551616) (by omega) (by omega), hq, hkk]; omega⟩
          have hfalse : hL.getD kk false = false := by
            rcases hh : hL.getD kk false with _ | _
            · rfl
            · rw [hkk] at hh
              obtain ⟨t, ht, he⟩ := HLP.out q hqm hh
              exact absurd (he.trans hq.symm) (mod_ne m n1 t i (by omega) hlt ht rn0)
          have HFA := Aside0.mk hfalse
          have HQ := Aside0.mk hq
          have HKK := Aside0.mk hkk
          have hk1 : ¬ (kk : Int) < 1 := by omega
          have hk2 : ¬ (m : Int) < kk := by omega
          have hk5 : kk < 5 := by omega
          have hk50 : (kk : Int) < 5 := by omega
          have hk00 : (0 : Int) ≤ kk := by omega
          clear hfalse hq hkk
          go_wp2_with fail
          clear q0 q1 q2 q3 q4 q5 q6 q7 q8 q9 q10 q11
          refine (turn j m tr tmo A1 A2 A3 A4 A5 c1 c2 c3 c4 c5 _ (HJ.out.below HHw.out.1) (n1 + i) true (by simpa using HRC.out) kk HVK.out).mono ?_
          rintro e w4 ⟨rfl, hb4⟩
          have HH4 := Aside0.mk (HHw.out.below hb4)
          have hbh := (hb4.block gh (blk_lt' HHB.out)).trans HHB.out
          have hc := cell_boolj (j := kk) hbh (by rw [HLL.out]; exact hk5)
          rw [HFA.out] at hc
          have hfz : w4.frozen? ⟨gh, kk, none⟩ = false := frozen_of_blk hbh
          have hz9 : w4.cell? ⟨g, 9, none⟩ = some (.int .i64 (m : Int)) := cell_of_blk HH4.out.2
          have HS := Aside0.mk (setCell_blk (j := kk) hbh (.bool true))
          clear hb4 hbh
          go_wp2_with fail
          go_roundg (m - (i + 1))
          case measure => omega
          case rel =>
            refine ⟨i + 1, hL.set kk true, by omega, by go_num, ⟨by rw [List.length_set]; exact HLL.out⟩, ⟨fun q' hq' h => ?_⟩, ⟨?_⟩, ⟨HH4.out.other HGH.out.1 HGH.out.2 kk _⟩⟩
            · rw [getD_setj _ _ _ _ _ (by rw [HLL.out]; exact hk5)] at h
              by_cases he : 1 + q' = kk
              · exact ⟨i, by omega, by rw [HQ.out]; have := HKK.out; omega⟩
              · rw [if_neg he] at h
                obtain ⟨t, ht, e⟩ := HLP.out q' hq' h
                exact ⟨t, by omega, e⟩
            · rw [HS.out]
              simp [List.map_set]
        · obtain rfl : i = m := by omega
          clear HLL HLP HHB HGH
          obtain ⟨pN, hpN⟩ : ∃ pN : Nat, j.parts = pN := ⟨j.parts.toNat, by omega⟩
          have HPN := Aside0.mk hpN
          clear hpN
          go_wp2_with fail
          clear q0 q1 q2 q3 q4 q5 q6 q7 q8 q9 q10 q11
          go_loopg [10] pN (fun kq v w' => ∃ p : Nat, p + kq = pN ∧ v = .int .i64 p ∧ Aside0 (Held W g j i tr tmo A1 A2 A3 A4 A5 c1 c2 c3 c4 c5 w'))
          case atStart => exact ⟨0, by omega, rfl, HHw⟩
          case round =>
            clear HHw
            obtain ⟨p, hp, rfl, HHw⟩ := hrel
            by_cases hlt2 : (p : Int) < j.parts
            · obtain ⟨v, hv⟩ : ∃ v : Int, v = 1 + (p : Int) % i := ⟨_, rfl⟩
              have hm0 := Int.emod_nonneg (p : Int) (show (i : Int) ≠ 0 by omega)
              have hm1 := Int.emod_lt_of_pos (p : Int) (show 0 < (i : Int) by omega)
              have HV1 : Aside0 (v = homeN true j.parts i p) := ⟨by rw [hv, homeN, if_pos (show true = true ∧ 0 ≤ (p : Int) ∧ (p : Int) ≤ j.parts - 1 from ⟨rfl, by omega, by omega⟩)]⟩
              have HV2 : Aside0 (v = turnN true i p) := ⟨by rw [hv, turnN, if_pos rfl, Int.emod_eq_of_lt (a := (p : Int)) (b := 18446744073709551616) (by omega) (by omega)]⟩
              have hv1 : decide (v < 1) = false := decide_eq_false (by omega)
              have hv2 : decide ((i : Int) < v) = false := decide_eq_false (by omega)
              have hvv : (v != v) = false := by simp
              have hH0 : Held W g j i tr tmo A1 A2 A3 A4 A5 c1 c2 c3 c4 c5 wr.drew := HHw.out.below (below_drew1 (Below.refl _ _))
              have yy1 : wr.cell? ⟨g, 1, none⟩ = some (.int .i64 j.parts) := cell_of_blk HHw.out.2
              clear hv hm0 hm1
              go_wp2_with fail
              clear yy1
              go_region_held3 (fun w' => (w'.cell? ⟨g, 0, none⟩ = some (.slice A1 j.splits.length c1) ∧ w'.cell? ⟨g, 1, none⟩ = some (.int .i64 j.parts) ∧ w'.cell? ⟨g, 2, none⟩ = some (.slice A2 j.map.length c2) ∧ w'.cell? ⟨g, 3, none⟩ = some (.slice A3 j.combine.length c3) ∧ w'.cell? ⟨g, 4, none⟩ = some (.slice A4 j.reduce.length c4) ∧ w'.cell? ⟨g, 5, none⟩ = some (.int .i64 j.chunk) ∧ w'.cell? ⟨g, 6, none⟩ = some (.int .i64 j.window) ∧ w'.cell? ⟨g, 7, none⟩ = some (.int .i64 j.fuel) ∧ w'.cell? ⟨g, 8, none⟩ = some (.slice A5 j.marks.length c5) ∧ w'.cell? ⟨g, 9, none⟩ = some (.int .i64 (i : Int)) ∧ w'.cell? ⟨g, 10, none⟩ = some (.int .i64 tr) ∧ w'.cell? ⟨g, 11, none⟩ = some (.int .i64 tmo)) ∧ Held W g j i tr tmo A1 A2 A3 A4 A5 c1 c2 c3 c4 c5 w') (first | exact held_all (by assumption))
                 (first
                  | (go_at_call 22; refine (homeH HJ.out _ (by go_split_ands; assumption) p true (by simpa using HRC.out) v HV1.out).mono ?_; rintro e wz ⟨rfl, hHz⟩)
                  | (go_at_call 21; refine (turnH HJ.out _ (by go_split_ands; assumption) p true (by simpa using HRC.out) v HV2.out).mono ?_; rintro e wz ⟨rfl, hHz⟩))
              all_goals
                go_wp2_with fail
                go_roundg (pN - (p + 1))
                case measure => have := HPN.out; omega
                case rel => exact ⟨p + 1, by have := HPN.out; omega, by go_num, ⟨hHz⟩⟩
            · obtain ⟨a, ha⟩ : ∃ a : Int, a = homeN true j.parts i part := ⟨_, rfl⟩
              obtain ⟨b, hb⟩ : ∃ b : Int, b = turnN true i (-n1) := ⟨_, rfl⟩
              have HVA := Aside0.mk ha
              have HVB := Aside0.mk hb
              have haa : (a == a) = true := by simp
              have hbb : (b == b) = true := by simp
              have hnn : IntKind.i64.wrap (-n1) = -n1 := IntWalk.i64_in _ (by omega)
              have hH0 : Held W g j i tr tmo A1 A2 A3 A4 A5 c1 c2 c3 c4 c5 wr.drew := HHw.out.below (below_drew1 (Below.refl _ _))
              have yy1 : wr.cell? ⟨g, 1, none⟩ = some (.int .i64 j.parts) := cell_of_blk HHw.out.2
              clear ha hb
              go_wp2_with fail
              clear yy1
              go_region_held3 (fun w' => (w'.cell? ⟨g, 0, none⟩ = some (.slice A1 j.splits.length c1) ∧ w'.cell? ⟨g, 1, none⟩ = some (.int .i64 j.parts) ∧ w'.cell? ⟨g, 2, none⟩ = some (.slice A2 j.map.length c2) ∧ w'.cell? ⟨g, 3, none⟩ = some (.slice A3 j.combine.length c3) ∧ w'.cell? ⟨g, 4, none⟩ = some (.slice A4 j.reduce.length c4) ∧ w'.cell? ⟨g, 5, none⟩ = some (.int .i64 j.chunk) ∧ w'.cell? ⟨g, 6, none⟩ = some (.int .i64 j.window) ∧ w'.cell? ⟨g, 7, none⟩ = some (.int .i64 j.fuel) ∧ w'.cell? ⟨g, 8, none⟩ = some (.slice A5 j.marks.length c5) ∧ w'.cell? ⟨g, 9, none⟩ = some (.int .i64 (i : Int)) ∧ w'.cell? ⟨g, 10, none⟩ = some (.int .i64 tr) ∧ w'.cell? ⟨g, 11, none⟩ = some (.int .i64 tmo)) ∧ Held W g j i tr tmo A1 A2 A3 A4 A5 c1 c2 c3 c4 c5 w') (first | exact held_all (by assumption))
                 (first
                  | (go_at_call 22; refine (homeH HJ.out _ (by go_split_ands; assumption) part true (by simpa using HRC.out) a HVA.out).mono ?_; rintro e wz ⟨rfl, hHz⟩)
                  | (go_at_call 23; refine (refHomeH HJ.out _ (by go_split_ands; assumption) part hp1 hp2 hw1 hw2 a HVA.out).mono ?_; rintro e wz ⟨rfl, hHz⟩)
                  | (go_at_call 21; refine (turnH HJ.out _ (by go_split_ands; assumption) (-n1) true (by simpa using HRC.out) b HVB.out).mono ?_; rintro e wz ⟨rfl, hHz⟩)
                  | (go_at_call 24; refine (refTurnH HJ.out _ (by go_split_ands; assumption) (-n1) hw1 hw2 b HVB.out).mono ?_; rintro e wz ⟨rfl, hHz⟩)
                  | (go_at_call 15; refine (awakeH _ (by go_split_ands; assumption)).mono ?_; rintro e wz ⟨rfl, hHz⟩))
              all_goals
                go_wp2_with fail
                go_ret
                exact ⟨rfl, hHz.1⟩
theorem jobHomes_walk (W : World) (x : CfgD) (cs : List Value) (hk : kCfg.K W x cs) (hg : GCfg x) (part : Int) (wpart : (Lit.int .i64 part).wf = true) (n : Int) (wn : (Lit.int .i64 n).wf = true) :
    Calls Try.prog 4 #[.agg cs.toArray, .int .i64 part, .int .i64 n] W fun e w' => e = .returned (.bool true) ∧ Below W.heap.size W w' := by
  obtain ⟨A1, A2, A3, A4, A5, c1, c2, c3, c4, c5, rfl, hJ⟩ := kCfg_open hk
  exact jobHomes_in x.job x.workers x.tries x.timeout A1 A2 A3 A4 A5 c1 c2 c3 c4 c5 W hJ hg.1.1 part n
end Go.Proofs.Ytckjgfbfjjiikaa.K
