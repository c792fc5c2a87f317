/- Homes, turns; awake. -/
import Derived.Test.YtbnhhlahbhjogaaJ6
set_option linter.unusedVariables false
set_option linter.unusedSimpArgs false
namespace Go.Proofs.Ytbnhhlahbhjogaa.K
open Go.RowKit Go.Proofs.YtbnhhlahbhjogaaW.PrintWords Go.Proofs.YtbnhhlahbhjogaaW.PrintLast Go.Proofs.YtbnhhlahbhjogaaW.PrintMore Go.Proofs.Ytbnhhlahbhjogaa.U Go.Proofs.Ytbnhhlahbhjogaa.T

/-- Who keeps a part; whose turn it is. -/
def homeN (r : Bool) (parts wk part : Int) : Int := if r = true ∧ 0 ≤ part ∧ part ≤ parts - 1 then 1 + part % wk else 0
def turnN (r : Bool) (wk n : Int) : Int := if r = true then 1 + n % 18446744073709551616 % wk else 0
set_option maxRecDepth 100000 in
set_option maxHeartbeats 1600000 in
theorem turn (j : JobD) (wk tr tmo : Int) (A1 A2 A3 A4 A5 : Option Addr) (c1 c2 c3 c4 c5 : Nat) (w : World) (hj : JobC w j A1 A2 A3 A4 A5 c1 c2 c3 c4 c5) (n : Int) (r : Bool) (hr : r = true ↔ CfgMay ⟨j, wk, tr, tmo⟩) (v : Int) (hv : v = turnN r wk n) :
    Calls Try.prog 20 #[.agg #[.slice A1 j.splits.length c1, .int .i64 j.parts, .slice A2 j.map.length c2, .slice A3 j.combine.length c3, .slice A4 j.reduce.length c4, .int .i64 j.chunk, .int .i64 j.window, .int .i64 j.fuel, .slice A5 j.marks.length c5, .int .i64 wk, .int .i64 tr, .int .i64 tmo], .int .i64 n] w fun e w' => e = .returned (.int .i64 v) ∧ Below w.heap.size w w' := by
  have HR := Aside0.mk hr
  have HV := Aside0.mk hv
  clear hr hv
  have HJ := Aside0.mk hj
  have hmx1 := Kd.C_max hj.s
  obtain ⟨wb, hwb⟩ : ∃ wb, wb = w.alloc (.cells #[.slice A1 j.splits.length c1, .int .i64 j.parts, .slice A2 j.map.length c2, .slice A3 j.combine.length c3, .slice A4 j.reduce.length c4, .int .i64 j.chunk, .int .i64 j.window, .int .i64 j.fuel, .slice A5 j.marks.length c5, .int .i64 wk, .int .i64 tr, .int .i64 tmo] 28) := ⟨_, rfl⟩
  obtain ⟨g, hg⟩ : ∃ g, g = w.heap.size := ⟨_, rfl⟩
  have hba := (Below.refl w.heap.size w).alloc (Nat.le_refl _) (.cells #[.slice A1 j.splits.length c1, .int .i64 j.parts, .slice A2 j.map.length c2, .slice A3 j.combine.length c3, .slice A4 j.reduce.length c4, .int .i64 j.chunk, .int .i64 j.window, .int .i64 j.fuel, .slice A5 j.marks.length c5, .int .i64 wk, .int .i64 tr, .int .i64 tmo] 28)
  rw [← hwb] at hba
  have hbk : wb.heap[g]? = some (.cells ([.slice A1 j.splits.length c1, .int .i64 j.parts, .slice A2 j.map.length c2, .slice A3 j.combine.length c3, .slice A4 j.reduce.length c4, .int .i64 j.chunk, .int .i64 j.window, .int .i64 j.fuel, .slice A5 j.marks.length c5, .int .i64 wk, .int .i64 tr, .int .i64 tmo]).toArray 28 (0, 0)) := by rw [hwb, hg]; exact alloc_at w _
  have HWB := Aside0.mk hwb
  have HG := Aside0.mk hg
  have HB := Aside0.mk hba
  have HBK := Aside0.mk hbk
  have hJb := HJ.out.below hba
  have HJb := Aside0.mk hJb
  have huc := Try.underlying28
  have huj := Try.underlying26
  clear hwb hg hba hbk hj hJb
  go_enter Try.func20, Try.ntmps20
  go_upto_region 1 with (fail)
  rw [← HWB.out, ← HG.out]
  have q0 : wb.cell? ⟨g, 0, none⟩ = some (.slice A1 j.splits.length c1) := cell_of_blk HBK.out
  have q1 : wb.cell? ⟨g, 1, none⟩ = some (.int .i64 j.parts) := cell_of_blk HBK.out
  have q2 : wb.cell? ⟨g, 2, none⟩ = some (.slice A2 j.map.length c2) := cell_of_blk HBK.out
  have q3 : wb.cell? ⟨g, 3, none⟩ = some (.slice A3 j.combine.length c3) := cell_of_blk HBK.out
  have q4 : wb.cell? ⟨g, 4, none⟩ = some (.slice A4 j.reduce.length c4) := cell_of_blk HBK.out
  have q5 : wb.cell? ⟨g, 5, none⟩ = some (.int .i64 j.chunk) := cell_of_blk HBK.out
  have q6 : wb.cell? ⟨g, 6, none⟩ = some (.int .i64 j.window) := cell_of_blk HBK.out
  have q7 : wb.cell? ⟨g, 7, none⟩ = some (.int .i64 j.fuel) := cell_of_blk HBK.out
  have q8 : wb.cell? ⟨g, 8, none⟩ = some (.slice A5 j.marks.length c5) := cell_of_blk HBK.out
  have q9 : wb.cell? ⟨g, 9, none⟩ = some (.int .i64 wk) := cell_of_blk HBK.out
  have q10 : wb.cell? ⟨g, 10, none⟩ = some (.int .i64 tr) := cell_of_blk HBK.out
  have q11 : wb.cell? ⟨g, 11, none⟩ = some (.int .i64 tmo) := cell_of_blk HBK.out
  go_wp2_with fail
  clear q0 q1 q2 q3 q4 q5 q6 q7 q8 q9 q10 q11
  refine (cfgMay j wk tr tmo A1 A2 A3 A4 A5 c1 c2 c3 c4 c5 _ HJb.out r HR.out).mono ?_
  rintro e w1 ⟨rfl, hb1⟩
  have hbk1 := (hb1.block g (blk_lt' HBK.out)).trans HBK.out
  have HB1 := Aside0.mk (two_andj _ _ _ HB.out hb1)
  have z9 : w1.cell? ⟨g, 9, none⟩ = some (.int .i64 wk) := cell_of_blk hbk1
  clear hb1 hbk1
  cases r with
  | false =>
    go_wp2_with fail
    go_ret
    exact ⟨by rw [HV.out]; rfl, HB1.out⟩
  | true =>
    have hcm := HR.out.1 (by simp)
    have hw1 : 1 ≤ wk := hcm.workers.1
    have hw2 : wk ≤ 4 := hcm.workers.2
    clear hcm
    obtain ⟨k0, hk0⟩ : ∃ k0 : Int, k0 = n % 18446744073709551616 := ⟨_, rfl⟩
    obtain ⟨m, hm⟩ : ∃ m : Int, m = k0 % wk := ⟨_, rfl⟩
    have hm0 : 0 ≤ m := by rw [hm]; exact Int.emod_nonneg _ (by omega)
    have hm1 : m < wk := by rw [hm]; exact Int.emod_lt_of_pos _ (by omega)
    have hu1 : IntKind.u64.wrap n = k0 := by rw [u64_wrap, hk0]
    have hu2 : IntKind.u64.wrap wk = wk := by rw [u64_wrap]; omega
    have hu3 : k0.tmod wk = m := by rw [hm]; exact Int.tmod_eq_emod_of_nonneg (by omega)
    have hu4 : IntKind.u64.wrap m = m := by rw [u64_wrap]; omega
    have hu5 : IntKind.i64.wrap m = m := IntWalk.i64_in _ (by omega)
    have hu6 : wrap64 m = m := by unfold wrap64; omega
    have hz : (wk == 0) = false := beq_eq_false_iff_ne.2 (by omega)
    have HVM : Aside0 (v = 1 + m) := ⟨by rw [HV.out, turnN, if_pos rfl, ← hk0, ← hm]⟩
    clear hk0 hm
    go_wp2_with fail
    go_ret
    first
      | exact ⟨by rw [HVM.out]; rfl, HB1.out⟩
      | exact ⟨by rw [HVM.out]; simp [hu1, hu2, hu3, hu4, hu5, hu6], HB1.out⟩
/-- The small job. -/
def smallJ (p : Int) : JobD := ⟨[[]], p, [⟨0, 0, ⟨#[]⟩⟩], [], [⟨0, 0, ⟨#[]⟩⟩], 1, 1, 1, []⟩
theorem small_may (p wk : Int) (hp : 1 ≤ p ∧ p ≤ 4) (hw : 1 ≤ wk ∧ wk ≤ 4) : CfgMay ⟨smallJ p, wk, 1, 1⟩ := by
  have hcode : CodeMay [⟨0, 0, ⟨#[]⟩⟩] := by decide
  have hnil : CodeMay [] := by decide
  refine ⟨⟨?_, hp, ?_, ?_, fun i hi => absurd hi (by show ¬ i < 0; omega), ⟨?_, hcode⟩, ⟨?_, hcode⟩, hnil, ?_, ?_, ?_⟩, hw, ?_, ?_⟩
  · show (1 : Int) ≤ 1 ∧ (1 : Int) ≤ 6
    decide
  · show 0 ≤ 4
    decide
  · intro l hl
    rw [List.mem_singleton.1 hl]
    exact ⟨by decide, fun x hx => by cases hx⟩
  · show 1 ≠ 0
    decide
  · show 1 ≠ 0
    decide
  · show (1 : Int) ≤ 1 ∧ (1 : Int) ≤ 7
    decide
  · show (1 : Int) ≤ 1 ∧ (1 : Int) ≤ 4
    decide
  · show (1 : Int) ≤ 1 ∧ (1 : Int) ≤ 2000
    decide
  · show (1 : Int) ≤ 1 ∧ (1 : Int) ≤ 3
    decide
  · show (1 : Int) ≤ 1 ∧ (1 : Int) ≤ 50
    decide
theorem alloc_sizej (w : World) (o : Obj) : (w.alloc o).heap.size = w.heap.size + 1 := by simp
theorem C_one {α : Type} {d : Kd α} {w : World} {g : Nat} {x : α} {cs : List Value} {e : TypeId} {fr : Nat × Nat} (hb : w.heap[g]? = some (.cells cs.toArray e fr)) (hk : d.K w x cs) : d.C w (some ⟨g, 0, none⟩) 1 [x] := by
  refine ⟨rfl, by simp, fun _ => ⟨_, rfl, fun j p hj => ?_⟩⟩
  cases j with
  | zero =>
    have : x = p := by simpa using hj
    subst this
    exact ⟨cs, d.K_len hk, hk, fun i u hu => by rw [Nat.zero_mul, Nat.zero_add]; exact cells_of_blk hb _ _ hu⟩
  | succ j => simp at hj
theorem C_zero {α : Type} (d : Kd α) (w : World) : d.C w none 0 [] := ⟨rfl, by simp, fun h => absurd h (by omega)⟩
theorem small_rows (w : World) (o : Obj) (p : Int) : JobC (((w.alloc o).alloc (.cells #[.int .i64 0, .int .i64 0, .string ⟨#[]⟩] 115)).alloc (.cells #[.slice none 0 0] 43)) (smallJ p) (some ⟨w.heap.size + 1 + 1, 0, none⟩) (some ⟨w.heap.size + 1, 0, none⟩) none (some ⟨w.heap.size + 1, 0, none⟩) none 1 1 0 1 0 := by
  have h1 : (((w.alloc o).alloc (.cells #[.int .i64 0, .int .i64 0, .string ⟨#[]⟩] 115)).alloc (.cells #[.slice none 0 0] 43)).heap[w.heap.size + 1]? = some (.cells ([.int .i64 0, .int .i64 0, .string ⟨#[]⟩] : List Value).toArray 115 (0, 0)) := by
    refine alloc_keeps ?_ _
    rw [← alloc_sizej w o]
    exact alloc_at _ _
  have h2 : (((w.alloc o).alloc (.cells #[.int .i64 0, .int .i64 0, .string ⟨#[]⟩] 115)).alloc (.cells #[.slice none 0 0] 43)).heap[w.heap.size + 1 + 1]? = some (.cells ([.slice none 0 0] : List Value).toArray 43 (0, 0)) := by
    rw [← alloc_sizej w o, ← alloc_sizej (w.alloc o) (.cells #[.int .i64 0, .int .i64 0, .string ⟨#[]⟩] 115)]
    exact alloc_at _ _
  generalize (((w.alloc o).alloc (.cells #[.int .i64 0, .int .i64 0, .string ⟨#[]⟩] 115)).alloc (.cells #[.slice none 0 0] 43)) = w3 at h1 h2 ⊢
  have hi : Kd.C kIns w3 (some ⟨w.heap.size + 1, 0, none⟩) 1 [⟨0, 0, ⟨#[]⟩⟩] := C_one h1 ⟨[.int .i64 0], [.int .i64 0, .string ⟨#[]⟩], rfl, rfl, ⟨[.int .i64 0], [.string ⟨#[]⟩], rfl, rfl, rfl⟩⟩
  have hr : Kd.C kRows w3 (some ⟨w.heap.size + 1 + 1, 0, none⟩) 1 [[]] := C_one h2 ⟨none, 0, rfl, Nat.le_refl _, C_zero _ _⟩
  exact ⟨hr, hi, C_zero _ _, hi, C_zero _ _, Nat.le_refl _, Nat.le_refl _, Nat.le_refl _, Nat.le_refl _, Nat.le_refl _⟩
theorem emptyJob_no : ¬ JobMay ⟨[], 0, [], [], [], 0, 0, 0, []⟩ := fun h => by
  have h1 : (1 : Int) ≤ 0 := h.parts.1
  omega
end Go.Proofs.Ytbnhhlahbhjogaa.K
