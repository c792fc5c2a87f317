/- A letter that shares nothing. -/
import Derived.Test.YtkgbcoijkmlmnaaE3
import Derived.Test.YtkgbcoijkmlmnaaKQ2
import Derived.Test.YtkgbcoijkmlmnaaKI
import Derived.Deep.RegionHeldLaw
import Derived.WalkSpells
set_option linter.unusedVariables false
set_option linter.unusedSimpArgs false
set_option maxRecDepth 100000
namespace Go.Proofs.Ytkgbcoijkmlmnaa.K
open Go.RowKit Go.Proofs.YtkgbcoijkmlmnaaW.PrintWords Go.Proofs.YtkgbcoijkmlmnaaW.PrintLast Go.Proofs.YtkgbcoijkmlmnaaW.PrintMore Go.Proofs.Ytkgbcoijkmlmnaa.U Go.Proofs.Ytkgbcoijkmlmnaa.T

theorem own_empty {α : Type} {d : Kd α} {e : TypeId} {w : World} : Own d e (w.alloc (.cells #[] e)) w.heap.size (.slice (some ⟨w.heap.size, 0, none⟩) 0 0) [] :=
  ⟨fun _ _ => trivial, [], ⟨by simp, .inr ⟨w.heap.size, 0, #[], rfl, Nat.le_refl _, alloc_at w _, Nat.le_refl _, by unfold maxLen; omega, by simp, by simp⟩⟩, Reps.none _ _⟩
set_option maxHeartbeats 800000 in
theorem cloneP (A0 : Option Addr) (c0 : Nat) (l0 : List PairD) (w : World) (hr0 : Kd.C kPair w A0 l0.length l0) (hl : l0.length ≤ 100000000) :
    Calls Try.prog 75 #[.slice A0 l0.length c0] w fun e w' => ∃ v, e = .returned v ∧ Own kPair 114 w' w.heap.size v l0 ∧ Below w.heap.size w w' := by
  have HR0 := Aside0.mk hr0
  have heq : ∀ w A n c, (binOp .eql 32 (.slice A n c) (.slice none 0 0)).run Try.prog w = .ok (.bool A.isNone) w := fun w A n c => Lib.run_eql_slice_nil w 32 114 A n c 0 0 Try.underlying32
  cases A0 with
  | none =>
    have h0 : l0 = [] := by
      rcases Nat.eq_zero_or_pos l0.length with h | h
      · exact List.eq_nil_of_length_eq_zero h
      · obtain ⟨ad, e, _⟩ := hr0.2.2 h
        cases e
    subst h0
    go_enter Try.func75, Try.ntmps75
    go_wp2_with fail
    go_ret
    exact ⟨_, rfl, Own.nil _ _ _ _, Below.refl _ _⟩
  | some ad =>
    clear hr0
    have hba : Below w.heap.size w (w.alloc (.cells #[] 114)) := (Below.refl _ _).alloc (Nat.le_refl _) _
    go_enter Try.func75, Try.ntmps75
    go_wp2_with (at_builtin; refine wpList_append_runs rfl _ _ _ _ rfl _ _ rfl rfl (append_own_runs Try.prog flat_pair 32 _ _ 32 Try.underlying32 info_pair rfl (by decide) (own_empty (d := kPair) (e := 114) (w := w)) (some ad) l0.length c0 rfl (Kd.C_below HR0.out hba) hba.size (by simp; omega) (by simp; omega)) ?_; rintro v2 w2 ⟨hv2, hg2⟩; have HV2 := Aside0.mk hv2; have HG2 := Aside0.mk hg2; clear hv2 hg2)
    go_ret
    exact ⟨_, rfl, HV2.out, hba.grown HG2.out hba.size (fun k hk => by cases hk; exact Nat.le_refl _)⟩
set_option maxHeartbeats 800000 in
theorem cloneI (A0 : Option Addr) (c0 : Nat) (l0 : List Int) (w : World) (hr0 : Kd.C kI w A0 l0.length l0) (hl : l0.length ≤ 100000000) :
    Calls Try.prog 74 #[.slice A0 l0.length c0] w fun e w' => ∃ v, e = .returned v ∧ Own kI 3 w' w.heap.size v l0 ∧ Below w.heap.size w w' := by
  have HR0 := Aside0.mk hr0
  have heq : ∀ w A n c, (binOp .eql 31 (.slice A n c) (.slice none 0 0)).run Try.prog w = .ok (.bool A.isNone) w := fun w A n c => Lib.run_eql_slice_nil w 31 3 A n c 0 0 Try.underlying31
  cases A0 with
  | none =>
    have h0 : l0 = [] := by
      rcases Nat.eq_zero_or_pos l0.length with h | h
      · exact List.eq_nil_of_length_eq_zero h
      · obtain ⟨ad, e, _⟩ := hr0.2.2 h
        cases e
    subst h0
    go_enter Try.func74, Try.ntmps74
    go_wp2_with fail
    go_ret
    exact ⟨_, rfl, Own.nil _ _ _ _, Below.refl _ _⟩
  | some ad =>
    clear hr0
    have hba : Below w.heap.size w (w.alloc (.cells #[] 3)) := (Below.refl _ _).alloc (Nat.le_refl _) _
    go_enter Try.func74, Try.ntmps74
    go_wp2_with (at_builtin; refine wpList_append_runs rfl _ _ _ _ rfl _ _ rfl rfl (append_own_runs Try.prog (flat_int .i64) 31 _ _ 8 Try.underlying31 info_int rfl (by decide) (own_empty (d := kI) (e := 3) (w := w)) (some ad) l0.length c0 rfl (Kd.C_below HR0.out hba) hba.size (by simp; omega) (by simp; omega)) ?_; rintro v2 w2 ⟨hv2, hg2⟩; have HV2 := Aside0.mk hv2; have HG2 := Aside0.mk hg2; clear hv2 hg2)
    go_ret
    exact ⟨_, rfl, HV2.out, hba.grown HG2.out hba.size (fun k hk => by cases hk; exact Nat.le_refl _)⟩
/-- A letter as a value. -/
def letV (x : LetD) (sv pv : Value) : Value := .agg #[.int .i64 x.fr, .int .i64 x.dst, .int .i64 x.m.k, .int .i64 x.m.s, .int .i64 x.m.a, .int .i64 x.m.p, .int .i64 x.m.q, .int .i64 x.m.n, .int .i64 x.m.e, .int .i64 x.m.r, sv, pv]
def zeroL : List Value := [.int .i64 0, .int .i64 0, .int .i64 0, .int .i64 0, .int .i64 0, .int .i64 0, .int .i64 0, .int .i64 0, .int .i64 0, .int .i64 0, .slice none 0 0, .slice none 0 0]
/-- A letter's cells are written. -/
def wrote12 (w : World) (g : Nat) (a0 a1 a2 a3 a4 a5 a6 a7 a8 a9 a10 a11 : Value) : World := ((((((((((((w.setCell ⟨g, 0, none⟩ a0).setCell ⟨g, 1, none⟩ a1).setCell ⟨g, 2, none⟩ a2).setCell ⟨g, 3, none⟩ a3).setCell ⟨g, 4, none⟩ a4).setCell ⟨g, 5, none⟩ a5).setCell ⟨g, 6, none⟩ a6).setCell ⟨g, 7, none⟩ a7).setCell ⟨g, 8, none⟩ a8).setCell ⟨g, 9, none⟩ a9).setCell ⟨g, 10, none⟩ a10).setCell ⟨g, 11, none⟩ a11)
theorem set12 {w : World} {g : Nat} {x0 x1 x2 x3 x4 x5 x6 x7 x8 x9 x10 x11 : Value} {t : TypeId} (h : w.heap[g]? = some (.cells ([x0, x1, x2, x3, x4, x5, x6, x7, x8, x9, x10, x11] : List Value).toArray t (0, 0))) (a0 a1 a2 a3 a4 a5 a6 a7 a8 a9 a10 a11 : Value) : (wrote12 w g a0 a1 a2 a3 a4 a5 a6 a7 a8 a9 a10 a11).heap[g]? = some (.cells ([a0, a1, a2, a3, a4, a5, a6, a7, a8, a9, a10, a11] : List Value).toArray t (0, 0)) :=
  (setCell_blk (setCell_blk (setCell_blk (setCell_blk (setCell_blk (setCell_blk (setCell_blk (setCell_blk (setCell_blk (setCell_blk (setCell_blk (setCell_blk h a0) a1) a2) a3) a4) a5) a6) a7) a8) a9) a10) a11)
theorem set12_ch (w : World) (g : Nat) (a0 a1 a2 a3 a4 a5 a6 a7 a8 a9 a10 a11 : Value) : Ch w (wrote12 w g a0 a1 a2 a3 a4 a5 a6 a7 a8 a9 a10 a11) (fun k => k = g) := (((((((((((((Ch.refl w (fun k => k = g)).setCell ⟨g, 0, none⟩ a0 rfl).setCell ⟨g, 1, none⟩ a1 rfl).setCell ⟨g, 2, none⟩ a2 rfl).setCell ⟨g, 3, none⟩ a3 rfl).setCell ⟨g, 4, none⟩ a4 rfl).setCell ⟨g, 5, none⟩ a5 rfl).setCell ⟨g, 6, none⟩ a6 rfl).setCell ⟨g, 7, none⟩ a7 rfl).setCell ⟨g, 8, none⟩ a8 rfl).setCell ⟨g, 9, none⟩ a9 rfl).setCell ⟨g, 10, none⟩ a10 rfl).setCell ⟨g, 11, none⟩ a11 rfl)
def HeldN (w w' : World) : Prop := Below w.heap.size w w'
theorem HeldN.then_ {w w1 w2 : World} (h : HeldN w w1) (k : Below w1.heap.size w1 w2) : HeldN w w2 := below_then h h.size k
theorem below_drew (w : World) : Below w.heap.size w w.drew := ⟨rfl, rfl, rfl, Nat.le_refl _, fun _ _ => rfl⟩
set_option maxHeartbeats 3200000 in
theorem own_ (x : LetD) (A1 A2 : Option Addr) (c1 c2 : Nat) (w : World) (h : MsgC w x.m A1 A2 c1 c2) (hl1 : x.m.set.length ≤ 1000000) (hl2 : x.m.prs.length ≤ 1000000) :
    Calls Try.prog 43 #[letV x (.slice A1 x.m.set.length c1) (.slice A2 x.m.prs.length c2)] w fun e w' => ∃ sv pv, e = .returned (letV x sv pv) ∧ Own kI 3 w' w.heap.size sv x.m.set ∧ Own kPair 114 w' w.heap.size pv x.m.prs ∧ Below w.heap.size w w' := by
  obtain ⟨gi, hgi⟩ : ∃ g, g = w.heap.size := ⟨_, rfl⟩
  obtain ⟨wA, hwA⟩ : ∃ w', w' = (w.alloc (.cells (rawL x (.slice A1 x.m.set.length c1) (.slice A2 x.m.prs.length c2)).toArray 36)).alloc (.cells zeroL.toArray 36) := ⟨_, rfl⟩
  have hb1 := (Below.refl w.heap.size w).alloc (Nat.le_refl _) (.cells (rawL x (.slice A1 x.m.set.length c1) (.slice A2 x.m.prs.length c2)).toArray 36)
  have hbA : Below w.heap.size w wA := by rw [hwA]; exact hb1.alloc hb1.size _
  have hiA : wA.heap[gi]? = some (.cells (rawL x (.slice A1 x.m.set.length c1) (.slice A2 x.m.prs.length c2)).toArray 36 (0, 0)) := by rw [hwA, hgi]; exact alloc_keeps (alloc_at w _) _
  have hjA : wA.heap[gi + 1]? = some (.cells zeroL.toArray 36 (0, 0)) := by rw [hwA, hgi]; have := alloc_at (w.alloc (.cells (rawL x (.slice A1 x.m.set.length c1) (.slice A2 x.m.prs.length c2)).toArray 36)) (.cells zeroL.toArray 36); rwa [World.size_alloc] at this
  have HM := Aside0.mk (h.below hbA)
  have c10 : wA.cell? ⟨gi, 10, none⟩ = some (.slice A1 x.m.set.length c1) := cell_of_blk hiA
  have c11 : wA.cell? ⟨gi, 11, none⟩ = some (.slice A2 x.m.prs.length c2) := cell_of_blk hiA
  have HIA := Aside0.mk hiA
  have HJA := Aside0.mk hjA
  have HBA := Aside0.mk hbA
  have HWA := Aside0.mk hwA
  have HGI := Aside0.mk hgi
  obtain ⟨ls, hls⟩ : ∃ ls, ls = x.m.set.length := ⟨_, rfl⟩
  obtain ⟨lp, hlp⟩ : ∃ lp, lp = x.m.prs.length := ⟨_, rfl⟩
  rw [← hls] at c10 HIA HWA ⊢
  rw [← hlp] at c11 HIA HWA ⊢
  have HCI : Aside0 (∀ w', HeldN wA w' → Calls Try.prog 74 #[.slice A1 ls c1] w' fun e w'' => ∃ A c, e = .returned (.slice A ls c) ∧ Own kI 3 w'' wA.heap.size (.slice A ls c) x.m.set ∧ HeldN wA w'' ∧ HeldN w' w'') := ⟨fun w' hw => by
    rw [hls]
    refine (cloneI A1 c1 x.m.set w' (Kd.C_below HM.out.s hw) (by omega)).mono ?_
    rintro e w'' ⟨v, rfl, hO, hb⟩
    obtain ⟨A, c, rfl, _, _⟩ := hO.reads
    exact ⟨A, c, rfl, hO.lower hw.size, hw.then_ hb, hb⟩⟩
  have HCP : Aside0 (∀ w', HeldN wA w' → Calls Try.prog 75 #[.slice A2 lp c2] w' fun e w'' => ∃ A c, e = .returned (.slice A lp c) ∧ Own kPair 114 w'' wA.heap.size (.slice A lp c) x.m.prs ∧ HeldN wA w'' ∧ HeldN w' w'') := ⟨fun w' hw => by
    rw [hlp]
    refine (cloneP A2 c2 x.m.prs w' (Kd.C_below HM.out.p hw) (by omega)).mono ?_
    rintro e w'' ⟨v, rfl, hO, hb⟩
    obtain ⟨A, c, rfl, _, _⟩ := hO.reads
    exact ⟨A, c, rfl, hO.lower hw.size, hw.then_ hb, hb⟩⟩
  have hh0 : HeldN wA wA := Below.refl _ _
  have hhd : ∀ w', HeldN wA w' → HeldN wA w'.drew := fun w' h => h.then_ (below_drew w')
  have hkeep : ∀ w', HeldN wA w' → w'.cell? ⟨gi, 10, none⟩ = some (.slice A1 ls c1) ∧ w'.cell? ⟨gi, 11, none⟩ = some (.slice A2 lp c2) := fun w' h => ⟨(h.cell (World.block_lt_of_cell? wA _ c10)).trans c10, (h.cell (World.block_lt_of_cell? wA _ c11)).trans c11⟩
  have hblk : ∀ w', HeldN wA w' → w'.heap[gi]? = some (.cells (rawL x (.slice A1 ls c1) (.slice A2 lp c2)).toArray 36 (0, 0)) := fun w' h => (h.block gi (blk_lt' HIA.out)).trans HIA.out
  clear hiA hjA hbA hwA hgi hls hlp hl1 hl2 hb1
  unfold letV
  go_enter Try.func43, Try.ntmps43
  go_upto_region 1 with (fail)
  rw [show (w.alloc (.cells #[.int .i64 x.fr, .int .i64 x.dst, .int .i64 x.m.k, .int .i64 x.m.s, .int .i64 x.m.a, .int .i64 x.m.p, .int .i64 x.m.q, .int .i64 x.m.n, .int .i64 x.m.e, .int .i64 x.m.r, .slice A1 ls c1, .slice A2 lp c2] 36)).alloc (.cells #[.int .i64 0, .int .i64 0, .int .i64 0, .int .i64 0, .int .i64 0, .int .i64 0, .int .i64 0, .int .i64 0, .int .i64 0, .int .i64 0, .slice none 0 0, .slice none 0 0] 36) = wA from HWA.out.symm, ← HGI.out]
  have cd10 : wA.drew.cell? ⟨gi, 10, none⟩ = some (.slice A1 ls c1) := (hkeep _ (hhd _ hh0)).1
  have cd11 : wA.drew.cell? ⟨gi, 11, none⟩ = some (.slice A2 lp c2) := (hkeep _ (hhd _ hh0)).2
  go_region_with (first | (refine (HCI.out _ (by first | assumption | exact hhd _ (by assumption))).mono ?_; rintro e wi ⟨Ai, ci, rfl, hOi, hHi, hBi⟩; have hqi : wi.cell? ⟨gi, 11, none⟩ = some (.slice A2 lp c2) := (hkeep _ hHi).2) | (refine (HCP.out _ (by first | assumption | exact hhd _ (by assumption))).mono ?_; rintro e wp ⟨Ap, cp, rfl, hOp, hHp, hBp⟩; have hbp := hblk _ hHp; have hq10 : wp.cell? ⟨gi, 10, none⟩ = some (.slice A1 ls c1) := (hkeep _ hHp).1; have hz10 : wp.frozen? ⟨gi, 10, none⟩ = false := frozen_of_blk hbp; have hs10 := setCell_blk (j := 10) hbp (.slice Ai ls ci); have hq11 : (wp.setCell ⟨gi, 10, none⟩ (.slice Ai ls ci)).cell? ⟨gi, 11, none⟩ = some (.slice A2 lp c2) := cell_of_blk hs10; have hz11 : (wp.setCell ⟨gi, 10, none⟩ (.slice Ai ls ci)).frozen? ⟨gi, 11, none⟩ = false := frozen_of_blk hs10))
  all_goals
    have hs11 := setCell_blk (j := 11) hs10 (.slice Ap lp cp)
    have hcZ : Ch wp ((wp.setCell ⟨gi, 10, none⟩ (.slice Ai ls ci)).setCell ⟨gi, 11, none⟩ (.slice Ap lp cp)) (fun k => k = gi) := ((Ch.refl wp (fun k => k = gi)).setCell ⟨gi, 10, none⟩ _ rfl).setCell ⟨gi, 11, none⟩ _ rfl
    obtain ⟨wZ, hwZ⟩ : ∃ wZ, wZ = (wp.setCell ⟨gi, 10, none⟩ (.slice Ai ls ci)).setCell ⟨gi, 11, none⟩ (.slice Ap lp cp) := ⟨_, rfl⟩
    rw [← hwZ] at hs11 hcZ ⊢
    have hgA : gi < wA.heap.size := blk_lt' HIA.out
    have hOi2 := (hOi.below hBp).ch (flat_int .i64) hcZ (fun k hk e => by have := hOi.base_ k hk; omega)
    have hOp2 := hOp.ch flat_pair hcZ (fun k hk e => by have := hOp.base_ k hk; omega)
    have hBZ : Below w.heap.size w wZ := Below.ch (below_then HBA.out HBA.out.size hHp) hcZ (Nat.le_trans HBA.out.size hHp.size) (fun k hk => by rw [hk, HGI.out]; exact Nat.le_refl _)
    have hjZ : wZ.heap[gi + 1]? = some (.cells zeroL.toArray 36 (0, 0)) := hcZ.blk ((hHp.block (gi + 1) (blk_lt' HJA.out)).trans HJA.out) (by omega)
    have HEND := Aside0.mk (And.intro hOi2 (And.intro hOp2 hBZ))
    have hz0 : wZ.cell? ⟨gi, 0, none⟩ = some (.int .i64 x.fr) := cell_of_blk hs11
    have hz1 : wZ.cell? ⟨gi, 1, none⟩ = some (.int .i64 x.dst) := cell_of_blk hs11
    have hz2 : wZ.cell? ⟨gi, 2, none⟩ = some (.int .i64 x.m.k) := cell_of_blk hs11
    have hz3 : wZ.cell? ⟨gi, 3, none⟩ = some (.int .i64 x.m.s) := cell_of_blk hs11
    have hz4 : wZ.cell? ⟨gi, 4, none⟩ = some (.int .i64 x.m.a) := cell_of_blk hs11
    have hz5 : wZ.cell? ⟨gi, 5, none⟩ = some (.int .i64 x.m.p) := cell_of_blk hs11
    have hz6 : wZ.cell? ⟨gi, 6, none⟩ = some (.int .i64 x.m.q) := cell_of_blk hs11
    have hz7 : wZ.cell? ⟨gi, 7, none⟩ = some (.int .i64 x.m.n) := cell_of_blk hs11
    have hz8 : wZ.cell? ⟨gi, 8, none⟩ = some (.int .i64 x.m.e) := cell_of_blk hs11
    have hz9 : wZ.cell? ⟨gi, 9, none⟩ = some (.int .i64 x.m.r) := cell_of_blk hs11
    have hza : wZ.cell? ⟨gi, 10, none⟩ = some (.slice Ai ls ci) := cell_of_blk hs11
    have hzb : wZ.cell? ⟨gi, 11, none⟩ = some (.slice Ap lp cp) := cell_of_blk hs11
    have f0 : wZ.cell? ⟨gi + 1, 0, none⟩ = some (.int .i64 0) := cell_of_blk hjZ
    have z0 : wZ.frozen? ⟨gi + 1, 0, none⟩ = false := frozen_of_blk hjZ
    have f1 : wZ.cell? ⟨gi + 1, 1, none⟩ = some (.int .i64 0) := cell_of_blk hjZ
    have z1 : wZ.frozen? ⟨gi + 1, 1, none⟩ = false := frozen_of_blk hjZ
    have f2 : wZ.cell? ⟨gi + 1, 2, none⟩ = some (.int .i64 0) := cell_of_blk hjZ
    have z2 : wZ.frozen? ⟨gi + 1, 2, none⟩ = false := frozen_of_blk hjZ
    have f3 : wZ.cell? ⟨gi + 1, 3, none⟩ = some (.int .i64 0) := cell_of_blk hjZ
    have z3 : wZ.frozen? ⟨gi + 1, 3, none⟩ = false := frozen_of_blk hjZ
    have f4 : wZ.cell? ⟨gi + 1, 4, none⟩ = some (.int .i64 0) := cell_of_blk hjZ
    have z4 : wZ.frozen? ⟨gi + 1, 4, none⟩ = false := frozen_of_blk hjZ
    have f5 : wZ.cell? ⟨gi + 1, 5, none⟩ = some (.int .i64 0) := cell_of_blk hjZ
    have z5 : wZ.frozen? ⟨gi + 1, 5, none⟩ = false := frozen_of_blk hjZ
    have f6 : wZ.cell? ⟨gi + 1, 6, none⟩ = some (.int .i64 0) := cell_of_blk hjZ
    have z6 : wZ.frozen? ⟨gi + 1, 6, none⟩ = false := frozen_of_blk hjZ
    have f7 : wZ.cell? ⟨gi + 1, 7, none⟩ = some (.int .i64 0) := cell_of_blk hjZ
    have z7 : wZ.frozen? ⟨gi + 1, 7, none⟩ = false := frozen_of_blk hjZ
    have f8 : wZ.cell? ⟨gi + 1, 8, none⟩ = some (.int .i64 0) := cell_of_blk hjZ
    have z8 : wZ.frozen? ⟨gi + 1, 8, none⟩ = false := frozen_of_blk hjZ
    have f9 : wZ.cell? ⟨gi + 1, 9, none⟩ = some (.int .i64 0) := cell_of_blk hjZ
    have z9 : wZ.frozen? ⟨gi + 1, 9, none⟩ = false := frozen_of_blk hjZ
    have f10 : wZ.cell? ⟨gi + 1, 10, none⟩ = some (.slice none 0 0) := cell_of_blk hjZ
    have z10 : wZ.frozen? ⟨gi + 1, 10, none⟩ = false := frozen_of_blk hjZ
    have f11 : wZ.cell? ⟨gi + 1, 11, none⟩ = some (.slice none 0 0) := cell_of_blk hjZ
    have z11 : wZ.frozen? ⟨gi + 1, 11, none⟩ = false := frozen_of_blk hjZ
    have HJZ := Aside0.mk hjZ
    clear hjZ
    have hu := Try.underlying36
    have hum := Try.underlying34
    clear hOi hHi hBi hqi hOp hHp hBp hbp hq10 hz10 hs10 hq11 hz11 cd10 cd11 hh0 hhd hkeep hblk hcZ hwZ hOi2 hOp2 hBZ hs11 c10 c11
    go_wp2_with fail
    obtain ⟨w9, hw9⟩ : ∃ w9, w9 = wrote12 wZ (gi + 1) (.int .i64 x.fr) (.int .i64 x.dst) (.int .i64 x.m.k) (.int .i64 x.m.s) (.int .i64 x.m.a) (.int .i64 x.m.p) (.int .i64 x.m.q) (.int .i64 x.m.n) (.int .i64 x.m.e) (.int .i64 x.m.r) (.slice Ai ls ci) (.slice Ap lp cp) := ⟨_, rfl⟩
    have hq9 := set12 HJZ.out (.int .i64 x.fr) (.int .i64 x.dst) (.int .i64 x.m.k) (.int .i64 x.m.s) (.int .i64 x.m.a) (.int .i64 x.m.p) (.int .i64 x.m.q) (.int .i64 x.m.n) (.int .i64 x.m.e) (.int .i64 x.m.r) (.slice Ai ls ci) (.slice Ap lp cp)
    have hc9 := set12_ch wZ (gi + 1) (.int .i64 x.fr) (.int .i64 x.dst) (.int .i64 x.m.k) (.int .i64 x.m.s) (.int .i64 x.m.a) (.int .i64 x.m.p) (.int .i64 x.m.q) (.int .i64 x.m.n) (.int .i64 x.m.e) (.int .i64 x.m.r) (.slice Ai ls ci) (.slice Ap lp cp)
    rw [← hw9] at hq9 hc9
    unfold wrote12 at hw9
    rw [← hw9]
    have y0 : w9.cell? ⟨gi + 1, 0, none⟩ = some (.int .i64 x.fr) := cell_of_blk hq9
    have y1 : w9.cell? ⟨gi + 1, 1, none⟩ = some (.int .i64 x.dst) := cell_of_blk hq9
    have y2 : w9.cell? ⟨gi + 1, 2, none⟩ = some (.int .i64 x.m.k) := cell_of_blk hq9
    have y3 : w9.cell? ⟨gi + 1, 3, none⟩ = some (.int .i64 x.m.s) := cell_of_blk hq9
    have y4 : w9.cell? ⟨gi + 1, 4, none⟩ = some (.int .i64 x.m.a) := cell_of_blk hq9
    have y5 : w9.cell? ⟨gi + 1, 5, none⟩ = some (.int .i64 x.m.p) := cell_of_blk hq9
    have y6 : w9.cell? ⟨gi + 1, 6, none⟩ = some (.int .i64 x.m.q) := cell_of_blk hq9
    have y7 : w9.cell? ⟨gi + 1, 7, none⟩ = some (.int .i64 x.m.n) := cell_of_blk hq9
    have y8 : w9.cell? ⟨gi + 1, 8, none⟩ = some (.int .i64 x.m.e) := cell_of_blk hq9
    have y9 : w9.cell? ⟨gi + 1, 9, none⟩ = some (.int .i64 x.m.r) := cell_of_blk hq9
    have y10 : w9.cell? ⟨gi + 1, 10, none⟩ = some (.slice Ai ls ci) := cell_of_blk hq9
    have y11 : w9.cell? ⟨gi + 1, 11, none⟩ = some (.slice Ap lp cp) := cell_of_blk hq9
    clear hw9 hq9
    have hgj : gi + 1 < wA.heap.size := blk_lt' HJA.out
    have h1 := HEND.out.1.ch (flat_int .i64) hc9 (fun k hk e => by have := HEND.out.1.base_ k hk; omega)
    have h2 := HEND.out.2.1.ch flat_pair hc9 (fun k hk e => by have := HEND.out.2.1.base_ k hk; omega)
    have h3 : Below w.heap.size w w9 := Below.ch HEND.out.2.2 hc9 HEND.out.2.2.size (fun k hk => by rw [hk, HGI.out]; omega)
    have HF := Aside0.mk (And.intro (h1.lower HBA.out.size) (And.intro (h2.lower HBA.out.size) h3))
    clear h1 h2 h3 hc9 hgj
    refine bodyPost_ret (v := .agg #[.int .i64 x.fr, .int .i64 x.dst, .int .i64 x.m.k, .int .i64 x.m.s, .int .i64 x.m.a, .int .i64 x.m.p, .int .i64 x.m.q, .int .i64 x.m.n, .int .i64 x.m.e, .int .i64 x.m.r, .slice Ai ls ci, .slice Ap lp cp]) ?_ rfl ⟨_, _, rfl, HF.out⟩
    simp [results, Try.results43, go_sem, *]
end Go.Proofs.Ytkgbcoijkmlmnaa.K
