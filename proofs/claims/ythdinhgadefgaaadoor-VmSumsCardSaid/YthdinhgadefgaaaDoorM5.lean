/- The machine: the small calls. -/
import Derived.Test.YthdinhgadefgaaaDoorM4
set_option linter.unusedVariables false
set_option linter.unusedSimpArgs false
set_option maxRecDepth 100000
namespace Go.Proofs.YthdinhgadefgaaaDoor.K
open Go.RowKit Go.Proofs.YthdinhgadefgaaaDoorW.PrintWords Go.Proofs.YthdinhgadefgaaaDoorW.PrintLast Go.Proofs.YthdinhgadefgaaaDoorW.PrintMore Go.Proofs.YthdinhgadefgaaaDoor.U Go.Proofs.YthdinhgadefgaaaDoor.T Go.Proofs.YthdinhgadefgaaaDoor.V

/-- A row of values, made as a literal. -/
theorem lit_vals (w : World) (vs : List ValD) (e : Nat) (arr : Array Value) (h : arr = (regL vs).toArray) (hl : vs.length ≤ 1000) : Kd.C kValM (w.alloc (.cells arr e)) (some ⟨w.heap.size, 0, none⟩) vs.length vs := by
  subst h
  have hcell : ∀ j u, (regL vs)[j]? = some u → (w.alloc (.cells (regL vs).toArray e)).cell? ((⟨w.heap.size, 0, none⟩ : Addr).add j) = some u := cells_new w _ e
  refine ⟨rfl, by omega, fun hk0 => ⟨_, rfl, fun j x hj => ⟨cellV x, rfl, kValM_mk _ x, fun i u hu => ?_⟩⟩⟩
  refine hcell _ _ ?_
  have hi : i < 3 := (List.getElem?_eq_some_iff.1 hu).1
  clear hcell hl hk0
  show (regL vs)[j * 3 + i]? = some u
  induction vs generalizing j with
  | nil => simp at hj
  | cons v vs ih =>
    unfold regL
    rw [List.map_cons, List.flatten_cons]
    cases j with
    | zero =>
      simp at hj
      subst hj
      rw [Nat.zero_mul, Nat.zero_add, List.getElem?_append_left (by exact hi)]
      exact hu
    | succ j =>
      rw [List.getElem?_append_right (by show 3 ≤ _; omega)]
      have := ih j (by simpa using hj)
      show ((vs.map cellV).flatten)[(j + 1) * 3 + i - 3]? = some u
      rw [show (j + 1) * 3 + i - 3 = j * 3 + i from by omega]
      exact this
def intV (n : Int) : ValD := ⟨false, n, ⟨#[]⟩⟩
def txtV (s : ByteArray) : ValD := ⟨true, 0, s⟩
def boolN (b : Bool) : Int := if b then 1 else 0
theorem blk_got {w w' : World} {g : Nat} {o : Obj} (h : w.heap[g]? = some o) (hb : Below w.heap.size w w') : w'.heap[g]? = some o := (hb.block g (blk_lt' h)).trans h
theorem set3 {w : World} {g : Nat} {x0 x1 x2 : Value} {t : TypeId} (h : w.heap[g]? = some (.cells ([x0, x1, x2] : List Value).toArray t (0, 0))) (a b c : Value) : (((w.setCell ⟨g, 0, none⟩ a).setCell ⟨g, 1, none⟩ b).setCell ⟨g, 2, none⟩ c).heap[g]? = some (.cells ([a, b, c] : List Value).toArray t (0, 0)) :=
  setCell_blk (setCell_blk (setCell_blk h a) b) c
theorem set3_below {W w : World} {g : Nat} (h : Below W.heap.size W w) (hg : W.heap.size ≤ g) (a b c : Value) : Below W.heap.size W (((w.setCell ⟨g, 0, none⟩ a).setCell ⟨g, 1, none⟩ b).setCell ⟨g, 2, none⟩ c) :=
  Below.ch h ((((Ch.refl w (fun k => k = g)).setCell ⟨g, 0, none⟩ a rfl).setCell ⟨g, 1, none⟩ b rfl).setCell ⟨g, 2, none⟩ c rfl) h.size (fun k hk => by rw [hk]; exact hg)
theorem vmOne (b : Bool) (w : World) : Calls Tryd.prog 61 #[.bool b] w fun e w' => e = .returned (.agg #[.bool false, .int .i64 (boolN b), .string ⟨#[]⟩]) ∧ Below w.heap.size w w' := by
  obtain ⟨g, hg⟩ : ∃ g, g = w.heap.size := ⟨_, rfl⟩
  obtain ⟨wA, hwA⟩ : ∃ w', w' = w.alloc (.cells #[.bool false, .int .i64 0, .string ⟨#[]⟩] 23) := ⟨_, rfl⟩
  have hbA := (Below.refl w.heap.size w).alloc (Nat.le_refl _) (.cells #[.bool false, .int .i64 0, .string ⟨#[]⟩] 23)
  rw [← hwA] at hbA
  have hA : wA.heap[g]? = some (.cells ([.bool false, .int .i64 0, .string ⟨#[]⟩] : List Value).toArray 23 (0, 0)) := by rw [hwA, hg]; exact alloc_at w _
  have HC : Aside0 (∀ n, Calls Tryd.prog 26 #[.int .i64 n] wA fun e w'' => e = .returned (.agg #[.bool false, .int .i64 n, .string ⟨#[]⟩]) ∧ Aside0 (Below w.heap.size w w'') ∧ w''.heap[g]? = some (.cells ([.bool false, .int .i64 0, .string ⟨#[]⟩] : List Value).toArray 23 (0, 0))) := ⟨fun n => (valInt n wA).mono (fun e w'' k => ⟨k.1, ⟨two_belowM hbA k.2⟩, blk_got hA k.2⟩)⟩
  have HWA := Aside0.mk hwA
  have HG := Aside0.mk hg
  clear hbA hA hwA hg
  cases b
  all_goals
    go_enter Tryd.func61, Tryd.ntmps61
    go_upto_region 1 with (fail)
    rw [← HG.out, ← HWA.out]
    go_wp2_with fail
    refine (HC.out _).mono ?_
    rintro e w1 ⟨rfl, HB1, hblk⟩
    have c0 : w1.cell? ⟨g, 0, none⟩ = some (.bool false) := cell_of_blk hblk
    have c1 : w1.cell? ⟨g, 1, none⟩ = some (.int .i64 0) := cell_of_blk hblk
    have c2 : w1.cell? ⟨g, 2, none⟩ = some (.string ⟨#[]⟩) := cell_of_blk hblk
    have z0 : w1.frozen? ⟨g, 0, none⟩ = false := frozen_of_blk hblk
    have z1 : w1.frozen? ⟨g, 1, none⟩ = false := frozen_of_blk hblk
    have z2 : w1.frozen? ⟨g, 2, none⟩ = false := frozen_of_blk hblk
    have HBK := Aside0.mk hblk
    clear hblk
    go_wp2_with fail
    have hq := set3 HBK.out
    refine bodyPost_ret (v := .agg #[.bool false, .int .i64 _, .string ⟨#[]⟩]) ?_ rfl ⟨rfl, set3_below HB1.out (by rw [HG.out]; exact Nat.le_refl _) _ _ _⟩
    simp [results, Tryd.results61, go_sem, cell_of_blk (hq _ _ _)]
    rfl
/-- What is done with numbers. -/
def numO (op a b : Int) : Int := if op = 8 then wrap64 (a + b) else if op = 9 then wrap64 (a - b) else if op = 10 then wrap64 (a * b) else boolN (decide (a < b))
theorem vmNumbers (op a b : Int) (hop : op = 8 ∨ op = 9 ∨ op = 10 ∨ op = 11) (w : World) : Calls Tryd.prog 60 #[.int .i64 op, .int .i64 a, .int .i64 b] w fun e w' => e = .returned (.agg #[.bool false, .int .i64 (numO op a b), .string ⟨#[]⟩]) ∧ Below w.heap.size w w' := by
  obtain ⟨g, hg⟩ : ∃ g, g = w.heap.size := ⟨_, rfl⟩
  obtain ⟨wA, hwA⟩ : ∃ w', w' = w.alloc (.cells #[.bool false, .int .i64 0, .string ⟨#[]⟩] 23) := ⟨_, rfl⟩
  have hbA := (Below.refl w.heap.size w).alloc (Nat.le_refl _) (.cells #[.bool false, .int .i64 0, .string ⟨#[]⟩] 23)
  rw [← hwA] at hbA
  have hA : wA.heap[g]? = some (.cells ([.bool false, .int .i64 0, .string ⟨#[]⟩] : List Value).toArray 23 (0, 0)) := by rw [hwA, hg]; exact alloc_at w _
  have HC : Aside0 (∀ n, Calls Tryd.prog 26 #[.int .i64 n] wA fun e w'' => e = .returned (.agg #[.bool false, .int .i64 n, .string ⟨#[]⟩]) ∧ Aside0 (Below w.heap.size w w'') ∧ w''.heap[g]? = some (.cells ([.bool false, .int .i64 0, .string ⟨#[]⟩] : List Value).toArray 23 (0, 0))) := ⟨fun n => (valInt n wA).mono (fun e w'' k => ⟨k.1, ⟨two_belowM hbA k.2⟩, blk_got hA k.2⟩)⟩
  have HC1 : Aside0 (∀ n, Calls Tryd.prog 61 #[.bool n] wA fun e w'' => e = .returned (.agg #[.bool false, .int .i64 (boolN n), .string ⟨#[]⟩]) ∧ Aside0 (Below w.heap.size w w'') ∧ w''.heap[g]? = some (.cells ([.bool false, .int .i64 0, .string ⟨#[]⟩] : List Value).toArray 23 (0, 0))) := ⟨fun n => (vmOne n wA).mono (fun e w'' k => ⟨k.1, ⟨two_belowM hbA k.2⟩, blk_got hA k.2⟩)⟩
  have HWA := Aside0.mk hwA
  have HG := Aside0.mk hg
  clear hbA hA hwA hg
  rcases hop with rfl | rfl | rfl | rfl
  all_goals
    go_enter Tryd.func60, Tryd.ntmps60
    go_upto_region 1 with (fail)
    rw [← HG.out, ← HWA.out]
    go_wp2_with fail
    refine (by first | with_reducible exact HC.out _ | exact HC1.out _ : Calls _ _ _ _ _).mono ?_
    rintro e w1 ⟨rfl, HB1, hblk⟩
    have c0 : w1.cell? ⟨g, 0, none⟩ = some (.bool false) := cell_of_blk hblk
    have c1 : w1.cell? ⟨g, 1, none⟩ = some (.int .i64 0) := cell_of_blk hblk
    have c2 : w1.cell? ⟨g, 2, none⟩ = some (.string ⟨#[]⟩) := cell_of_blk hblk
    have z0 : w1.frozen? ⟨g, 0, none⟩ = false := frozen_of_blk hblk
    have z1 : w1.frozen? ⟨g, 1, none⟩ = false := frozen_of_blk hblk
    have z2 : w1.frozen? ⟨g, 2, none⟩ = false := frozen_of_blk hblk
    have HBK := Aside0.mk hblk
    clear hblk
    go_wp2_with fail
    have hq := set3 HBK.out
    refine bodyPost_ret (v := .agg #[.bool false, .int .i64 _, .string ⟨#[]⟩]) ?_ rfl ⟨rfl, set3_below HB1.out (by rw [HG.out]; exact Nat.le_refl _) _ _ _⟩
    simp [results, Tryd.results60, go_sem, cell_of_blk (hq _ _ _)]
    rfl
end Go.Proofs.YthdinhgadefgaaaDoor.K
