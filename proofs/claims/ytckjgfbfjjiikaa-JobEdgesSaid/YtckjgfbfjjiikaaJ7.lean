/- Homes, turns; awake. -/
import Derived.Test.YtckjgfbfjjiikaaJ6
set_option linter.unusedVariables false
set_option linter.unusedSimpArgs false
namespace Go.Proofs.Ytckjgfbfjjiikaa.K
open Go.RowKit Go.Proofs.YtckjgfbfjjiikaaW.PrintWords Go.Proofs.YtckjgfbfjjiikaaW.PrintLast Go.Proofs.YtckjgfbfjjiikaaW.PrintMore Go.Proofs.Ytckjgfbfjjiikaa.U Go.Proofs.Ytckjgfbfjjiikaa.T

/-- Who keeps a part; whose turn it is. -/
def homeN (r : Bool) (parts wk part : Int) : Int := if r = true ∧ 0 ≤ part ∧ part ≤ parts - 1 then 1 + part % wk else 0
def turnN (r : Bool) (wk n : Int) : Int := if r = true then 1 + n % 18446744073709551616 % wk else 0
set_option maxRecDepth 100000 in
set_option maxHeartbeats 1600000 in
theorem home (j : JobD) (wk tr tmo : Int) (A1 A2 A3 A4 A5 : Option Addr) (c1 c2 c3 c4 c5 : Nat) (w : World) (hj : JobC w j A1 A2 A3 A4 A5 c1 c2 c3 c4 c5) (part : Int) (r : Bool) (hr : r = true ↔ CfgMay ⟨j, wk, tr, tmo⟩) (v : Int) (hv : v = homeN r j.parts wk part) :
    Calls Try.prog 22 #[.agg #[.slice A1 j.splits.length c1, .int .i64 j.parts, .slice A2 j.map.length c2, .slice A3 j.combine.length c3, .slice A4 j.reduce.length c4, .int .i64 j.chunk, .int .i64 j.window, .int .i64 j.fuel, .slice A5 j.marks.length c5, .int .i64 wk, .int .i64 tr, .int .i64 tmo], .int .i64 part] w fun e w' => e = .returned (.int .i64 v) ∧ Below w.heap.size w w' := by
  have HR := Aside0.mk hr
  have HV := Aside0.mk hv
  clear hr hv
  have HJ := Aside0.mk hj
  have hmx1 := Kd.C_max hj.s
  obtain ⟨wb, hwb⟩ : ∃ wb, wb = w.alloc (.cells #[.slice A1 j.splits.length c1, .int .i64 j.parts, .slice A2 j.map.length c2, .slice A3 j.combine.length c3, .slice A4 j.reduce.length c4, .int .i64 j.chunk, .int .i64 j.window, .int .i64 j.fuel, .slice A5 j.marks.length c5, .int .i64 wk, .int .i64 tr, .int .i64 tmo] 28) := ⟨_, rfl⟩
  obtain ⟨g, hg⟩ : ∃ g, g = w.heap.size := ⟨_, rfl⟩
  have hba := (Below.refl w.heap.size w).alloc (Nat.le_refl _) (.cells #[.slice A1 j.splits.length c1, .int .i64 j.parts, .slice A2 j.map.length c2, .slice A3 j.combine.length c3, .slice A4 j.reduce.length c4, .int .i64 j.chunk, .int .i64 j.window, .int .i64 j.fuel, .slice A5 j.marks.length c5, .int .i64 wk, .int .i64 tr, .int .i64 tmo] 28)
  rw [← hwb] at hba
  have hbk : wb.heap[g]? = some (.cells ([.slice A1 j.splits.length c1, .int .i64 j.parts, .slice A2 j.map.length c2, .slice A3 j.combine.length c3, .slice A4 j.reduce.length c4, .int .i64 j.chunk, .int .i64 j.window, .int .i64 j.fuel, .slice A5 j.marks.length c5, .int .i64 wk, .int .i64 tr, .int .i64 tmo]).toArray 28 (0, 0)) := by rw [hwb, hg]; exact alloc_at w _
  have HWB := Aside0.mk hwb
  have HG := Aside0.mk hg
  have HB := Aside0.mk hba
  have HBK := Aside0.mk hbk
  have hJb := HJ.out.below hba
  have HJb := Aside0.mk hJb
  have huc := Try.underlying28
  have huj := Try.underlying26
  clear hwb hg hba hbk hj hJb
  go_enter Try.func22, Try.ntmps22
  go_upto_region 1 with (fail)
  rw [← HWB.out, ← HG.out]
  have q0 : wb.cell? ⟨g, 0, none⟩ = some (.slice A1 j.splits.length c1) := cell_of_blk HBK.out
  have q1 : wb.cell? ⟨g, 1, none⟩ = some (.int .i64 j.parts) := cell_of_blk HBK.out
  have q2 : wb.cell? ⟨g, 2, none⟩ = some (.slice A2 j.map.length c2) := cell_of_blk HBK.out
  have q3 : wb.cell? ⟨g, 3, none⟩ = some (.slice A3 j.combine.length c3) := cell_of_blk HBK.out
  have q4 : wb.cell? ⟨g, 4, none⟩ = some (.slice A4 j.reduce.length c4) := cell_of_blk HBK.out
  have q5 : wb.cell? ⟨g, 5, none⟩ = some (.int .i64 j.chunk) := cell_of_blk HBK.out
  have q6 : wb.cell? ⟨g, 6, none⟩ = some (.int .i64 j.window) := cell_of_blk HBK.out
  have q7 : wb.cell? ⟨g, 7, none⟩ = some (.int .i64 j.fuel) := cell_of_blk HBK.out
  have q8 : wb.cell? ⟨g, 8, none⟩ = some (.slice A5 j.marks.length c5) := cell_of_blk HBK.out
  have q9 : wb.cell? ⟨g, 9, none⟩ = some (.int .i64 wk) := cell_of_blk HBK.out
  have q10 : wb.cell? ⟨g, 10, none⟩ = some (.int .i64 tr) := cell_of_blk HBK.out
  have q11 : wb.cell? ⟨g, 11, none⟩ = some (.int .i64 tmo) := cell_of_blk HBK.out
  go_wp2_with fail
  clear q0 q1 q2 q3 q4 q5 q6 q7 q8 q9 q10 q11
  refine (cfgMay j wk tr tmo A1 A2 A3 A4 A5 c1 c2 c3 c4 c5 _ HJb.out r HR.out).mono ?_
  rintro e w1 ⟨rfl, hb1⟩
  have hbk1 := (hb1.block g (blk_lt' HBK.out)).trans HBK.out
  have HB1 := Aside0.mk (two_andj _ _ _ HB.out hb1)
  have z1 : w1.cell? ⟨g, 1, none⟩ = some (.int .i64 j.parts) := cell_of_blk hbk1
  have z9 : w1.cell? ⟨g, 9, none⟩ = some (.int .i64 wk) := cell_of_blk hbk1
  clear hb1 hbk1
  cases r with
  | false =>
    go_wp2_with fail
    go_ret
    exact ⟨by rw [HV.out]; rfl, HB1.out⟩
  | true =>
    have hcm := HR.out.1 (by simp)
    have hp1 : 1 ≤ j.parts := hcm.job.parts.1
    have hp2 : j.parts ≤ 4 := hcm.job.parts.2
    have hw1 : 1 ≤ wk := hcm.workers.1
    have hw2 : wk ≤ 4 := hcm.workers.2
    clear hcm
    go_wp2_with fail
    refine (within part 0 (j.parts - 1) _).mono ?_
    rintro e w1 ⟨rfl, rfl⟩
    by_cases h1 : 0 ≤ part ∧ part ≤ j.parts - 1
    · rw [decide_eq_true h1]
      obtain ⟨h10, h11⟩ := h1
      have hz : (wk == 0) = false := beq_eq_false_iff_ne.2 (by omega)
      have hm0 := Int.emod_nonneg part (show wk ≠ 0 by omega)
      have hm1 := Int.emod_lt_of_pos part (show 0 < wk by omega)
      obtain ⟨m, hm⟩ : ∃ m, m = part % wk := ⟨_, rfl⟩
      rw [← hm] at hm0 hm1
      have htm : part.tmod wk = m := by rw [hm]; exact Int.tmod_eq_emod_of_nonneg h10
      have HVM : Aside0 (v = 1 + m) := ⟨by rw [HV.out, homeN, if_pos ⟨rfl, h10, h11⟩, hm]⟩
      have hwm : wrap64 m = m := by unfold wrap64; omega
      have hwm2 : IntKind.i64.wrap m = m := IntWalk.i64_in _ (by omega)
      clear hm
      go_wp2_with fail
      go_ret
      exact ⟨by rw [HVM.out]; rfl, HB1.out⟩
    · rw [decide_eq_false h1]
      have HVM : Aside0 (v = 0) := ⟨by rw [HV.out, homeN, if_neg (fun h => h1 h.2)]⟩
      clear h1
      go_wp2_with fail
      go_ret
      exact ⟨by rw [HVM.out]; rfl, HB1.out⟩
set_option maxRecDepth 100000 in
set_option maxHeartbeats 1600000 in
theorem turn (j : JobD) (wk tr tmo : Int) (A1 A2 A3 A4 A5 : Option Addr) (c1 c2 c3 c4 c5 : Nat) (w : World) (hj : JobC w j A1 A2 A3 A4 A5 c1 c2 c3 c4 c5) (n : Int) (r : Bool) (hr : r = true ↔ CfgMay ⟨j, wk, tr, tmo⟩) (v : Int) (hv : v = turnN r wk n) :
    Calls Try.prog 21 #[.agg #[.slice A1 j.splits.length c1, .int .i64 j.parts, .slice A2 j.map.length c2, .slice A3 j.combine.length c3, .slice A4 j.reduce.length c4, .int .i64 j.chunk, .int .i64 j.window, .int .i64 j.fuel, .slice A5 j.marks.length c5, .int .i64 wk, .int .i64 tr, .int .i64 tmo], .int .i64 n] w fun e w' => e = .returned (.int .i64 v) ∧ Below w.heap.size w w' := by
  have HR := Aside0.mk hr
  have HV := Aside0.mk hv
  clear hr hv
  have HJ := Aside0.mk hj
  have hmx1 := Kd.C_max hj.s
  obtain ⟨wb, hwb⟩ : ∃ wb, wb = w.alloc (.cells #[.slice A1 j.splits.length c1, .int .i64 j.parts, .slice A2 j.map.length c2, .slice A3 j.combine.length c3, .slice A4 j.reduce.length c4, .int .i64 j.chunk, .int .i64 j.window, .int .i64 j.fuel, .slice A5 j.marks.length c5, .int .i64 wk, .int .i64 tr, .int .i64 tmo] 28) := ⟨_, rfl⟩
  obtain ⟨g, hg⟩ : ∃ g, g = w.heap.size := ⟨_, rfl⟩
  have hba := (Below.refl w.heap.size w).alloc (Nat.le_refl _) (.cells #[.slice A1 j.splits.length c1, .int .i64 j.parts, .slice A2 j.map.length c2, .slice A3 j.combine.length c3, .slice A4 j.reduce.length c4, .int .i64 j.chunk, .int .i64 j.window, .int .i64 j.fuel, .slice A5 j.marks.length c5, .int .i64 wk, .int .i64 tr, .int .i64 tmo] 28)
  rw [← hwb] at hba
  have hbk : wb.heap[g]? = some (.cells ([.slice A1 j.splits.length c1, .int .i64 j.parts, .slice A2 j.map.length c2, .slice A3 j.combine.length c3, .slice A4 j.reduce.length c4, .int .i64 j.chunk, .int .i64 j.window, .int .i64 j.fuel, .slice A5 j.marks.length c5, .int .i64 wk, .int .i64 tr, .int .i64 tmo]).toArray 28 (0, 0)) := by rw [hwb, hg]; exact alloc_at w _
  have HWB := Aside0.mk hwb
  have HG := Aside0.mk hg
  have HB := Aside0.mk hba
  have HBK := Aside0.mk hbk
  have hJb := HJ.out.below hba
  have HJb := Aside0.mk hJb
  have huc := Try.underlying28
  have huj := Try.underlying26
  clear hwb hg hba hbk hj hJb
  go_enter Try.func21, Try.ntmps21
  go_upto_region 1 with (fail)
  rw [← HWB.out, ← HG.out]
  have q0 : wb.cell? ⟨g, 0, none⟩ = some (.slice A1 j.splits.length c1) := cell_of_blk HBK.out
  have q1 : wb.cell? ⟨g, 1, none⟩ = some (.int .i64 j.parts) := cell_of_blk HBK.out
  have q2 : wb.cell? ⟨g, 2, none⟩ = some (.slice A2 j.map.length c2) := cell_of_blk HBK.out
  have q3 : wb.cell? ⟨g, 3, none⟩ = some (.slice A3 j.combine.length c3) := cell_of_blk HBK.out
  have q4 : wb.cell? ⟨g, 4, none⟩ = some (.slice A4 j.reduce.length c4) := cell_of_blk HBK.out
  have q5 : wb.cell? ⟨g, 5, none⟩ = some (.int .i64 j.chunk) := cell_of_blk HBK.out
  have q6 : wb.cell? ⟨g, 6, none⟩ = some (.int .i64 j.window) := cell_of_blk HBK.out
  have q7 : wb.cell? ⟨g, 7, none⟩ = some (.int .i64 j.fuel) := cell_of_blk HBK.out
  have q8 : wb.cell? ⟨g, 8, none⟩ = some (.slice A5 j.marks.length c5) := cell_of_blk HBK.out
  have q9 : wb.cell? ⟨g, 9, none⟩ = some (.int .i64 wk) := cell_of_blk HBK.out
  have q10 : wb.cell? ⟨g, 10, none⟩ = some (.int .i64 tr) := cell_of_blk HBK.out
  have q11 : wb.cell? ⟨g, 11, none⟩ = some (.int .i64 tmo) := cell_of_blk HBK.out
  go_wp2_with fail
  clear q0 q1 q2 q3 q4 q5 q6 q7 q8 q9 q10 q11
  refine (cfgMay j wk tr tmo A1 A2 A3 A4 A5 c1 c2 c3 c4 c5 _ HJb.out r HR.out).mono ?_
  rintro e w1 ⟨rfl, hb1⟩
  have hbk1 := (hb1.block g (blk_lt' HBK.out)).trans HBK.out
  have HB1 := Aside0.mk (two_andj _ _ _ HB.out hb1)
  have z9 : w1.cell? ⟨g, 9, none⟩ = some (.int .i64 wk) := cell_of_blk hbk1
  clear hb1 hbk1
  cases r with
  | false =>
    go_wp2_with fail
    go_ret
    exact ⟨by rw [HV.out]; rfl, HB1.out⟩
  | true =>
    have hcm := HR.out.1 (by simp)
    have hw1 : 1 ≤ wk := hcm.workers.1
    have hw2 : wk ≤ 4 := hcm.workers.2
    clear hcm
    obtain ⟨k0, hk0⟩ : ∃ k0 : Int, k0 = n % 18446744073709551616 := ⟨_, rfl⟩
    obtain ⟨m, hm⟩ : ∃ m : Int, m = k0 % wk := ⟨_, rfl⟩
    have hm0 : 0 ≤ m := by rw [hm]; exact Int.emod_nonneg _ (by omega)
    have hm1 : m < wk := by rw [hm]; exact Int.emod_lt_of_pos _ (by omega)
    have hu1 : IntKind.u64.wrap n = k0 := by rw [u64_wrap, hk0]
    have hu2 : IntKind.u64.wrap wk = wk := by rw [u64_wrap]; omega
    have hu3 : k0.tmod wk = m := by rw [hm]; exact Int.tmod_eq_emod_of_nonneg (by omega)
    have hu4 : IntKind.u64.wrap m = m := by rw [u64_wrap]; omega
    have hu5 : IntKind.i64.wrap m = m := IntWalk.i64_in _ (by omega)
    have hu6 : wrap64 m = m := by unfold wrap64; omega
    have hz : (wk == 0) = false := beq_eq_false_iff_ne.2 (by omega)
    have HVM : Aside0 (v = 1 + m) := ⟨by rw [HV.out, turnN, if_pos rfl, ← hk0, ← hm]⟩
    clear hk0 hm
    go_wp2_with fail
    go_ret
    first
      | exact ⟨by rw [HVM.out]; rfl, HB1.out⟩
      | exact ⟨by rw [HVM.out]; simp [hu1, hu2, hu3, hu4, hu5, hu6], HB1.out⟩
/-- The small job. -/
def smallJ (p : Int) : JobD := ⟨[[]], p, [⟨0, 0, ⟨#[]⟩⟩], [], [⟨0, 0, ⟨#[]⟩⟩], 1, 1, 1, []⟩
theorem small_may (p wk : Int) (hp : 1 ≤ p ∧ p ≤ 4) (hw : 1 ≤ wk ∧ wk ≤ 4) : CfgMay ⟨smallJ p, wk, 1, 1⟩ := by
  have hcode : CodeMay [⟨0, 0, ⟨#[]⟩⟩] := by decide
  have hnil : CodeMay [] := by decide
  refine ⟨⟨?_, hp, ?_, ?_, fun i hi => absurd hi (by show ¬ i < 0; omega), ⟨?_, hcode⟩, ⟨?_, hcode⟩, hnil, ?_, ?_, ?_⟩, hw, ?_, ?_⟩
  · show (1 : Int) ≤ 1 ∧ (1 : Int) ≤ 6
    decide
  · show 0 ≤ 4
    decide
  · intro l hl
    rw [List.mem_singleton.1 hl]
    exact ⟨by decide, fun x hx => by cases hx⟩
  · show 1 ≠ 0
    decide
  · show 1 ≠ 0
    decide
  · show (1 : Int) ≤ 1 ∧ (1 : Int) ≤ 7
    decide
  · show (1 : Int) ≤ 1 ∧ (1 : Int) ≤ 4
    decide
  · show (1 : Int) ≤ 1 ∧ (1 : Int) ≤ 2000
    decide
  · show (1 : Int) ≤ 1 ∧ (1 : Int) ≤ 3
    decide
  · show (1 : Int) ≤ 1 ∧ (1 : Int) ≤ 50
    decide
theorem alloc_sizej (w : World) (o : Obj) : (w.alloc o).heap.size = w.heap.size + 1 := by simp
theorem C_one {α : Type} {d : Kd α} {w : World} {g : Nat} {x : α} {cs : List Value} {e : TypeId} {fr : Nat × Nat} (hb : w.heap[g]? = some (.cells cs.toArray e fr)) (hk : d.K w x cs) : d.C w (some ⟨g, 0, none⟩) 1 [x] := by
  refine ⟨rfl, by simp, fun _ => ⟨_, rfl, fun j p hj => ?_⟩⟩
  cases j with
  | zero =>
    have : x = p := by simpa using hj
    subst this
    exact ⟨cs, d.K_len hk, hk, fun i u hu => by rw [Nat.zero_mul, Nat.zero_add]; exact cells_of_blk hb _ _ hu⟩
  | succ j => simp at hj
theorem C_zero {α : Type} (d : Kd α) (w : World) : d.C w none 0 [] := ⟨rfl, by simp, fun h => absurd h (by omega)⟩
theorem small_rows (w : World) (o : Obj) (p : Int) : JobC (((w.alloc o).alloc (.cells #[.int .i64 0, .int .i64 0, .string ⟨#[]⟩] 106)).alloc (.cells #[.slice none 0 0] 45)) (smallJ p) (some ⟨w.heap.size + 1 + 1, 0, none⟩) (some ⟨w.heap.size + 1, 0, none⟩) none (some ⟨w.heap.size + 1, 0, none⟩) none 1 1 0 1 0 := by
  have h1 : (((w.alloc o).alloc (.cells #[.int .i64 0, .int .i64 0, .string ⟨#[]⟩] 106)).alloc (.cells #[.slice none 0 0] 45)).heap[w.heap.size + 1]? = some (.cells ([.int .i64 0, .int .i64 0, .string ⟨#[]⟩] : List Value).toArray 106 (0, 0)) := by
    refine alloc_keeps ?_ _
    rw [← alloc_sizej w o]
    exact alloc_at _ _
  have h2 : (((w.alloc o).alloc (.cells #[.int .i64 0, .int .i64 0, .string ⟨#[]⟩] 106)).alloc (.cells #[.slice none 0 0] 45)).heap[w.heap.size + 1 + 1]? = some (.cells ([.slice none 0 0] : List Value).toArray 45 (0, 0)) := by
    rw [← alloc_sizej w o, ← alloc_sizej (w.alloc o) (.cells #[.int .i64 0, .int .i64 0, .string ⟨#[]⟩] 106)]
    exact alloc_at _ _
  generalize (((w.alloc o).alloc (.cells #[.int .i64 0, .int .i64 0, .string ⟨#[]⟩] 106)).alloc (.cells #[.slice none 0 0] 45)) = w3 at h1 h2 ⊢
  have hi : Kd.C kIns w3 (some ⟨w.heap.size + 1, 0, none⟩) 1 [⟨0, 0, ⟨#[]⟩⟩] := C_one h1 ⟨[.int .i64 0], [.int .i64 0, .string ⟨#[]⟩], rfl, rfl, ⟨[.int .i64 0], [.string ⟨#[]⟩], rfl, rfl, rfl⟩⟩
  have hr : Kd.C kRows w3 (some ⟨w.heap.size + 1 + 1, 0, none⟩) 1 [[]] := C_one h2 ⟨none, 0, rfl, Nat.le_refl _, C_zero _ _⟩
  exact ⟨hr, hi, C_zero _ _, hi, C_zero _ _, Nat.le_refl _, Nat.le_refl _, Nat.le_refl _, Nat.le_refl _, Nat.le_refl _⟩
set_option maxHeartbeats 1600000 in
theorem small (w : World) : Calls Try.prog 50 #[] w fun e w' => ∃ A1 A2, e = .returned (.agg #[.slice A1 1 1, .int .i64 1, .slice A2 1 1, .slice none 0 0, .slice A2 1 1, .int .i64 1, .int .i64 1, .int .i64 1, .slice none 0 0, .int .i64 1, .int .i64 1, .int .i64 1]) ∧ (∀ p, JobC w' (smallJ p) A1 A2 none A2 none 1 1 0 1 0) ∧ Below w.heap.size w w' := by
  have huc := Try.underlying28
  go_enter Try.func50, Try.ntmps50
  go_wp2_with fail
  refine bodyPost_ret (v := .agg #[.slice (some ⟨w.heap.size + 1 + 1, 0, none⟩) 1 1, .int .i64 1, .slice (some ⟨w.heap.size + 1, 0, none⟩) 1 1, .slice none 0 0, .slice (some ⟨w.heap.size + 1, 0, none⟩) 1 1, .int .i64 1, .int .i64 1, .int .i64 1, .slice none 0 0, .int .i64 1, .int .i64 1, .int .i64 1]) (by simp [results, Try.results50, go_sem]) rfl ?_
  refine ⟨_, _, rfl, fun p => small_rows w _ p, ?_⟩
  exact (((Below.refl _ _).alloc (Nat.le_refl _) _).alloc (by rw [alloc_sizej]; omega) _).alloc (by rw [alloc_sizej, alloc_sizej]; omega) _
theorem emptyJob_no : ¬ JobMay ⟨[], 0, [], [], [], 0, 0, 0, []⟩ := fun h => by
  have h1 : (1 : Int) ≤ 0 := h.parts.1
  omega
set_option maxRecDepth 100000 in
set_option maxHeartbeats 3200000 in
theorem awake12 (w : World) : Calls Try.prog 15 #[] w fun e w' => e = .returned (.bool true) ∧ Below w.heap.size w w' := by
  have huc := Try.underlying28
  have huj := Try.underlying26
  go_enter Try.func15, Try.ntmps15
  go_wp2_with fail
  refine (small w).mono ?_
  rintro e w1 ⟨A1, A2, rfl, hj1, hb1⟩
  have HJ1 := Aside0.mk hj1
  have HB1 := Aside0.mk hb1
  clear hj1 hb1
  obtain ⟨g1, hg1⟩ : ∃ g, g = w1.heap.size := ⟨_, rfl⟩
  obtain ⟨g2, hg2⟩ : ∃ g, g = w1.heap.size + 1 := ⟨_, rfl⟩
  obtain ⟨wa, hwa⟩ : ∃ wa, wa = w1.alloc (.cells #[.slice A1 1 1, .int .i64 1, .slice A2 1 1, .slice none 0 0, .slice A2 1 1, .int .i64 1, .int .i64 1, .int .i64 1, .slice none 0 0, .int .i64 1, .int .i64 1, .int .i64 1] 28) := ⟨_, rfl⟩
  obtain ⟨w2, hw2⟩ : ∃ w2, w2 = wa.alloc (.cells #[.slice A1 1 1, .int .i64 4, .slice A2 1 1, .slice none 0 0, .slice A2 1 1, .int .i64 1, .int .i64 1, .int .i64 1, .slice none 0 0, .int .i64 3, .int .i64 1, .int .i64 1] 28) := ⟨_, rfl⟩
  have hsa : wa.heap.size = g2 := by rw [hwa, hg2, alloc_sizej]
  have hk1 : w2.heap[g1]? = some (.cells ([.slice A1 1 1, .int .i64 1, .slice A2 1 1, .slice none 0 0, .slice A2 1 1, .int .i64 1, .int .i64 1, .int .i64 1, .slice none 0 0, .int .i64 1, .int .i64 1, .int .i64 1]).toArray 28 (0, 0)) := by rw [hw2]; refine alloc_keeps ?_ _; rw [hwa, hg1]; exact alloc_at w1 _
  have hk2 : w2.heap[g2]? = some (.cells ([.slice A1 1 1, .int .i64 4, .slice A2 1 1, .slice none 0 0, .slice A2 1 1, .int .i64 1, .int .i64 1, .int .i64 1, .slice none 0 0, .int .i64 3, .int .i64 1, .int .i64 1]).toArray 28 (0, 0)) := by rw [hw2, ← hsa]; exact alloc_at wa _
  have hba := HB1.out.alloc HB1.out.size (.cells #[.slice A1 1 1, .int .i64 1, .slice A2 1 1, .slice none 0 0, .slice A2 1 1, .int .i64 1, .int .i64 1, .int .i64 1, .slice none 0 0, .int .i64 1, .int .i64 1, .int .i64 1] 28)
  have hbx := (Below.refl w1.heap.size w1).alloc (Nat.le_refl _) (.cells #[.slice A1 1 1, .int .i64 1, .slice A2 1 1, .slice none 0 0, .slice A2 1 1, .int .i64 1, .int .i64 1, .int .i64 1, .slice none 0 0, .int .i64 1, .int .i64 1, .int .i64 1] 28)
  rw [← hwa] at hba hbx
  have hbb := hba.alloc hba.size (.cells #[.slice A1 1 1, .int .i64 4, .slice A2 1 1, .slice none 0 0, .slice A2 1 1, .int .i64 1, .int .i64 1, .int .i64 1, .slice none 0 0, .int .i64 3, .int .i64 1, .int .i64 1] 28)
  have hby := hbx.alloc hbx.size (.cells #[.slice A1 1 1, .int .i64 4, .slice A2 1 1, .slice none 0 0, .slice A2 1 1, .int .i64 1, .int .i64 1, .int .i64 1, .slice none 0 0, .int .i64 3, .int .i64 1, .int .i64 1] 28)
  rw [← hw2] at hbb hby
  have HB2 := Aside0.mk hbb
  have HJ2 : Aside0 (∀ p, JobC w2 (smallJ p) A1 A2 none A2 none 1 1 0 1 0) := ⟨fun p => (HJ1.out p).below hby⟩
  have HK1 := Aside0.mk hk1
  have HK2 := Aside0.mk hk2
  have HG1 := Aside0.mk hg1
  have HG2 := Aside0.mk hg2
  have HWA := Aside0.mk hwa
  have HW2 := Aside0.mk hw2
  clear hba hbx hbb hby hk1 hk2 hg1 hg2 hwa hw2 hsa
  go_upto_region 4 with (fail)
  rw [← HG2.out, ← HG1.out, ← HWA.out, ← HW2.out]
  have z0 : w2.cell? ⟨g1, 0, none⟩ = some (.slice A1 1 1) := cell_of_blk HK1.out
  have z1 : w2.cell? ⟨g1, 1, none⟩ = some (.int .i64 1) := cell_of_blk HK1.out
  have z2 : w2.cell? ⟨g1, 2, none⟩ = some (.slice A2 1 1) := cell_of_blk HK1.out
  have z3 : w2.cell? ⟨g1, 3, none⟩ = some (.slice none 0 0) := cell_of_blk HK1.out
  have z4 : w2.cell? ⟨g1, 4, none⟩ = some (.slice A2 1 1) := cell_of_blk HK1.out
  have z5 : w2.cell? ⟨g1, 5, none⟩ = some (.int .i64 1) := cell_of_blk HK1.out
  have z6 : w2.cell? ⟨g1, 6, none⟩ = some (.int .i64 1) := cell_of_blk HK1.out
  have z7 : w2.cell? ⟨g1, 7, none⟩ = some (.int .i64 1) := cell_of_blk HK1.out
  have z8 : w2.cell? ⟨g1, 8, none⟩ = some (.slice none 0 0) := cell_of_blk HK1.out
  have z9 : w2.cell? ⟨g1, 9, none⟩ = some (.int .i64 1) := cell_of_blk HK1.out
  have z10 : w2.cell? ⟨g1, 10, none⟩ = some (.int .i64 1) := cell_of_blk HK1.out
  have z11 : w2.cell? ⟨g1, 11, none⟩ = some (.int .i64 1) := cell_of_blk HK1.out
  go_wp2_with fail
  clear z0 z1 z2 z3 z4 z5 z6 z7 z8 z9 z10 z11
  refine (cfgMay (smallJ 1) 1 1 1 A1 A2 none A2 none 1 1 0 1 0 w2 (HJ2.out 1) true (by simp [small_may 1 1 (by omega) (by omega)])).mono ?_
  rintro e w3 ⟨rfl, hb3⟩
  have HB3 := Aside0.mk (two_andj _ _ _ HB2.out hb3)
  have HJ3 : Aside0 (∀ p, JobC w3 (smallJ p) A1 A2 none A2 none 1 1 0 1 0) := ⟨fun p => (HJ2.out p).below hb3⟩
  have HK1_3 := Aside0.mk ((hb3.block g1 (blk_lt' HK1.out)).trans HK1.out)
  have HK2_3 := Aside0.mk ((hb3.block g2 (blk_lt' HK2.out)).trans HK2.out)
  clear hb3
  have z0 : w3.cell? ⟨g2, 0, none⟩ = some (.slice A1 1 1) := cell_of_blk HK2_3.out
  have z1 : w3.cell? ⟨g2, 1, none⟩ = some (.int .i64 4) := cell_of_blk HK2_3.out
  have z2 : w3.cell? ⟨g2, 2, none⟩ = some (.slice A2 1 1) := cell_of_blk HK2_3.out
  have z3 : w3.cell? ⟨g2, 3, none⟩ = some (.slice none 0 0) := cell_of_blk HK2_3.out
  have z4 : w3.cell? ⟨g2, 4, none⟩ = some (.slice A2 1 1) := cell_of_blk HK2_3.out
  have z5 : w3.cell? ⟨g2, 5, none⟩ = some (.int .i64 1) := cell_of_blk HK2_3.out
  have z6 : w3.cell? ⟨g2, 6, none⟩ = some (.int .i64 1) := cell_of_blk HK2_3.out
  have z7 : w3.cell? ⟨g2, 7, none⟩ = some (.int .i64 1) := cell_of_blk HK2_3.out
  have z8 : w3.cell? ⟨g2, 8, none⟩ = some (.slice none 0 0) := cell_of_blk HK2_3.out
  have z9 : w3.cell? ⟨g2, 9, none⟩ = some (.int .i64 3) := cell_of_blk HK2_3.out
  have z10 : w3.cell? ⟨g2, 10, none⟩ = some (.int .i64 1) := cell_of_blk HK2_3.out
  have z11 : w3.cell? ⟨g2, 11, none⟩ = some (.int .i64 1) := cell_of_blk HK2_3.out
  go_wp2_with fail
  clear z0 z1 z2 z3 z4 z5 z6 z7 z8 z9 z10 z11
  refine (home (smallJ 4) 3 1 1 A1 A2 none A2 none 1 1 0 1 0 w3 (HJ3.out 4) 3 true (by simp [small_may 4 3 (by omega) (by omega)]) 1 (by decide)).mono ?_
  rintro e w4 ⟨rfl, hb4⟩
  have HB4 := Aside0.mk (two_andj _ _ _ HB3.out hb4)
  have HJ4 : Aside0 (∀ p, JobC w4 (smallJ p) A1 A2 none A2 none 1 1 0 1 0) := ⟨fun p => (HJ3.out p).below hb4⟩
  have HK1_4 := Aside0.mk ((hb4.block g1 (blk_lt' HK1_3.out)).trans HK1_3.out)
  have HK2_4 := Aside0.mk ((hb4.block g2 (blk_lt' HK2_3.out)).trans HK2_3.out)
  clear hb4
  have z0 : w4.cell? ⟨g2, 0, none⟩ = some (.slice A1 1 1) := cell_of_blk HK2_4.out
  have z1 : w4.cell? ⟨g2, 1, none⟩ = some (.int .i64 4) := cell_of_blk HK2_4.out
  have z2 : w4.cell? ⟨g2, 2, none⟩ = some (.slice A2 1 1) := cell_of_blk HK2_4.out
  have z3 : w4.cell? ⟨g2, 3, none⟩ = some (.slice none 0 0) := cell_of_blk HK2_4.out
  have z4 : w4.cell? ⟨g2, 4, none⟩ = some (.slice A2 1 1) := cell_of_blk HK2_4.out
  have z5 : w4.cell? ⟨g2, 5, none⟩ = some (.int .i64 1) := cell_of_blk HK2_4.out
  have z6 : w4.cell? ⟨g2, 6, none⟩ = some (.int .i64 1) := cell_of_blk HK2_4.out
  have z7 : w4.cell? ⟨g2, 7, none⟩ = some (.int .i64 1) := cell_of_blk HK2_4.out
  have z8 : w4.cell? ⟨g2, 8, none⟩ = some (.slice none 0 0) := cell_of_blk HK2_4.out
  have z9 : w4.cell? ⟨g2, 9, none⟩ = some (.int .i64 3) := cell_of_blk HK2_4.out
  have z10 : w4.cell? ⟨g2, 10, none⟩ = some (.int .i64 1) := cell_of_blk HK2_4.out
  have z11 : w4.cell? ⟨g2, 11, none⟩ = some (.int .i64 1) := cell_of_blk HK2_4.out
  go_wp2_with fail
  clear z0 z1 z2 z3 z4 z5 z6 z7 z8 z9 z10 z11
  refine (home (smallJ 4) 3 1 1 A1 A2 none A2 none 1 1 0 1 0 w4 (HJ4.out 4) 1 true (by simp [small_may 4 3 (by omega) (by omega)]) 2 (by decide)).mono ?_
  rintro e w5 ⟨rfl, hb5⟩
  have HB5 := Aside0.mk (two_andj _ _ _ HB4.out hb5)
  have HJ5 : Aside0 (∀ p, JobC w5 (smallJ p) A1 A2 none A2 none 1 1 0 1 0) := ⟨fun p => (HJ4.out p).below hb5⟩
  have HK1_5 := Aside0.mk ((hb5.block g1 (blk_lt' HK1_4.out)).trans HK1_4.out)
  have HK2_5 := Aside0.mk ((hb5.block g2 (blk_lt' HK2_4.out)).trans HK2_4.out)
  clear hb5
  have z0 : w5.cell? ⟨g1, 0, none⟩ = some (.slice A1 1 1) := cell_of_blk HK1_5.out
  have z1 : w5.cell? ⟨g1, 1, none⟩ = some (.int .i64 1) := cell_of_blk HK1_5.out
  have z2 : w5.cell? ⟨g1, 2, none⟩ = some (.slice A2 1 1) := cell_of_blk HK1_5.out
  have z3 : w5.cell? ⟨g1, 3, none⟩ = some (.slice none 0 0) := cell_of_blk HK1_5.out
  have z4 : w5.cell? ⟨g1, 4, none⟩ = some (.slice A2 1 1) := cell_of_blk HK1_5.out
  have z5 : w5.cell? ⟨g1, 5, none⟩ = some (.int .i64 1) := cell_of_blk HK1_5.out
  have z6 : w5.cell? ⟨g1, 6, none⟩ = some (.int .i64 1) := cell_of_blk HK1_5.out
  have z7 : w5.cell? ⟨g1, 7, none⟩ = some (.int .i64 1) := cell_of_blk HK1_5.out
  have z8 : w5.cell? ⟨g1, 8, none⟩ = some (.slice none 0 0) := cell_of_blk HK1_5.out
  have z9 : w5.cell? ⟨g1, 9, none⟩ = some (.int .i64 1) := cell_of_blk HK1_5.out
  have z10 : w5.cell? ⟨g1, 10, none⟩ = some (.int .i64 1) := cell_of_blk HK1_5.out
  have z11 : w5.cell? ⟨g1, 11, none⟩ = some (.int .i64 1) := cell_of_blk HK1_5.out
  go_wp2_with fail
  clear z0 z1 z2 z3 z4 z5 z6 z7 z8 z9 z10 z11
  refine (home (smallJ 1) 1 1 1 A1 A2 none A2 none 1 1 0 1 0 w5 (HJ5.out 1) 1 true (by simp [small_may 1 1 (by omega) (by omega)]) 0 (by decide)).mono ?_
  rintro e w6 ⟨rfl, hb6⟩
  have HB6 := Aside0.mk (two_andj _ _ _ HB5.out hb6)
  have HJ6 : Aside0 (∀ p, JobC w6 (smallJ p) A1 A2 none A2 none 1 1 0 1 0) := ⟨fun p => (HJ5.out p).below hb6⟩
  have HK1_6 := Aside0.mk ((hb6.block g1 (blk_lt' HK1_5.out)).trans HK1_5.out)
  have HK2_6 := Aside0.mk ((hb6.block g2 (blk_lt' HK2_5.out)).trans HK2_5.out)
  clear hb6
  go_wp2_with fail
  refine (jobMay ⟨[], 0, [], [], [], 0, 0, 0, []⟩ none none none none none 0 0 0 0 0 w6 ⟨C_zero _ _, C_zero _ _, C_zero _ _, C_zero _ _, C_zero _ _, Nat.le_refl _, Nat.le_refl _, Nat.le_refl _, Nat.le_refl _, Nat.le_refl _⟩ false (by simp [emptyJob_no])).mono ?_
  rintro e w7 ⟨rfl, hb7⟩
  have HB7 := Aside0.mk (two_andj _ _ _ HB6.out hb7)
  have HJ7 : Aside0 (∀ p, JobC w7 (smallJ p) A1 A2 none A2 none 1 1 0 1 0) := ⟨fun p => (HJ6.out p).below hb7⟩
  have HK1_7 := Aside0.mk ((hb7.block g1 (blk_lt' HK1_6.out)).trans HK1_6.out)
  have HK2_7 := Aside0.mk ((hb7.block g2 (blk_lt' HK2_6.out)).trans HK2_6.out)
  clear hb7
  have z0 : w7.cell? ⟨g2, 0, none⟩ = some (.slice A1 1 1) := cell_of_blk HK2_7.out
  have z1 : w7.cell? ⟨g2, 1, none⟩ = some (.int .i64 4) := cell_of_blk HK2_7.out
  have z2 : w7.cell? ⟨g2, 2, none⟩ = some (.slice A2 1 1) := cell_of_blk HK2_7.out
  have z3 : w7.cell? ⟨g2, 3, none⟩ = some (.slice none 0 0) := cell_of_blk HK2_7.out
  have z4 : w7.cell? ⟨g2, 4, none⟩ = some (.slice A2 1 1) := cell_of_blk HK2_7.out
  have z5 : w7.cell? ⟨g2, 5, none⟩ = some (.int .i64 1) := cell_of_blk HK2_7.out
  have z6 : w7.cell? ⟨g2, 6, none⟩ = some (.int .i64 1) := cell_of_blk HK2_7.out
  have z7 : w7.cell? ⟨g2, 7, none⟩ = some (.int .i64 1) := cell_of_blk HK2_7.out
  have z8 : w7.cell? ⟨g2, 8, none⟩ = some (.slice none 0 0) := cell_of_blk HK2_7.out
  have z9 : w7.cell? ⟨g2, 9, none⟩ = some (.int .i64 3) := cell_of_blk HK2_7.out
  have z10 : w7.cell? ⟨g2, 10, none⟩ = some (.int .i64 1) := cell_of_blk HK2_7.out
  have z11 : w7.cell? ⟨g2, 11, none⟩ = some (.int .i64 1) := cell_of_blk HK2_7.out
  go_wp2_with fail
  clear z0 z1 z2 z3 z4 z5 z6 z7 z8 z9 z10 z11
  refine (turn (smallJ 4) 3 1 1 A1 A2 none A2 none 1 1 0 1 0 w7 (HJ7.out 4) 5 true (by simp [small_may 4 3 (by omega) (by omega)]) 3 (by decide)).mono ?_
  rintro e w8 ⟨rfl, hb8⟩
  have HB8 := Aside0.mk (two_andj _ _ _ HB7.out hb8)
  have HJ8 : Aside0 (∀ p, JobC w8 (smallJ p) A1 A2 none A2 none 1 1 0 1 0) := ⟨fun p => (HJ7.out p).below hb8⟩
  have HK1_8 := Aside0.mk ((hb8.block g1 (blk_lt' HK1_7.out)).trans HK1_7.out)
  have HK2_8 := Aside0.mk ((hb8.block g2 (blk_lt' HK2_7.out)).trans HK2_7.out)
  clear hb8
  go_wp2_with fail
  go_ret
  exact ⟨rfl, HB8.out⟩
end Go.Proofs.Ytckjgfbfjjiikaa.K
