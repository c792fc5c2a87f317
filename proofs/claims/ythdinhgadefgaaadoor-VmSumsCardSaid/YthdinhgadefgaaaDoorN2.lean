/- A cell that is made once: what each call does. -/
import Derived.Test.YthdinhgadefgaaaDoorN1
import Derived.Deep.RegionHeld3
set_option linter.unusedVariables false
set_option linter.unusedSimpArgs false
namespace Go.Proofs.YthdinhgadefgaaaDoor.K
open Go.RowKit Go.Proofs.YthdinhgadefgaaaDoorW.PrintWords Go.Proofs.YthdinhgadefgaaaDoorW.PrintLast Go.Proofs.YthdinhgadefgaaaDoorW.PrintMore Go.Proofs.YthdinhgadefgaaaDoor.U Go.Proofs.YthdinhgadefgaaaDoor.T

theorem below_cellz {w w' : World} (hb : Below w.heap.size w w') {a : Addr} {v : Value} (hc : w.cell? a = some v) : w'.cell? a = some v := (hb.cell (World.block_lt_of_cell? w _ hc)).trans hc
/-- A cell's values: done, the lock, made, what it is made of, the text. -/
def cellL (d k m : Int) (f : Value) (s : ByteArray) : List Value := [.int .u32 d, .int .i32 k, .int .u32 0, .int .u32 m, f, .string s]
/-- The cell at block g. -/
def CellR (w : World) (g : Nat) (d k m : Int) (f : Value) (s : ByteArray) : Prop := w.heap[g]? = some (.cells (cellL d k m f s).toArray 132 (0, 0))
theorem lzNew (fn : Fn) (first cap : Array Value) (w : World) : Calls Tryd.prog 75 #[.func fn first cap] w fun e w' => e = .returned (.pointer (some ⟨w.heap.size, 0, none⟩)) ∧ CellR w' w.heap.size 0 0 0 (.func fn first cap) ⟨#[]⟩ ∧ Below w.heap.size w w' := by
  go_enter Tryd.func75, Tryd.ntmps75
  go_wp2_with fail
  go_ret
  exact ⟨rfl, alloc_at w _, (Below.refl _ _).alloc (Nat.le_refl _) _⟩
theorem lzNew_nil (w : World) : Calls Tryd.prog 75 #[.nilFunc] w fun e w' => e = .returned (.pointer (some ⟨w.heap.size, 0, none⟩)) ∧ CellR w' w.heap.size 0 0 0 .nilFunc ⟨#[]⟩ ∧ Below w.heap.size w w' := by
  go_enter Tryd.func75, Tryd.ntmps75
  go_wp2_with fail
  go_ret
  exact ⟨rfl, alloc_at w _, (Below.refl _ _).alloc (Nat.le_refl _) _⟩
theorem lzGet_nil (w : World) : Calls Tryd.prog 77 #[.pointer none] w fun e w' => e = .returned (.string ⟨#[]⟩) ∧ Below w.heap.size w w' := by
  go_enter Tryd.func77, Tryd.ntmps77
  go_wp2_with fail
  go_ret
  exact ⟨rfl, (Below.refl _ _).alloc (Nat.le_refl _) _⟩
/-- Do, done already. -/
theorem lzDo_done (g : Nat) (m : Int) (f : Value) (s : ByteArray) (fv : Value) (w : World) (h : CellR w g 1 0 m f s) : Calls Tryd.prog 82 #[.pointer (some ⟨g, 0, none⟩), fv] w fun e w' => e = .returned (.tuple #[]) ∧ w' = w := by
  have hc : w.cell? ⟨g, 0, none⟩ = some (.int .u32 1) := cell_of_blk h
  go_enter Tryd.func82, Tryd.ntmps82
  go_wp2_with fail
  refine (loadB _ 1 w hc (.inr rfl)).mono ?_
  rintro e w1 ⟨rfl, rfl⟩
  go_wp2_with fail
  go_end0
  exact ⟨rfl, rfl⟩
set_option maxRecDepth 100000 in
set_option maxHeartbeats 1600000 in
theorem lzSlow (g : Nat) (pl : Addr) (m : Int) (f : Value) (t s : ByteArray) (w : World) (h : CellR w g 0 0 m f t) (R : World → Prop) (hR : ∀ w', R w' → CellR w' g 0 1 m f s)
    (hcl : ∀ w', CellR w' g 0 1 m f t → w' = w.setCell ⟨g, 1, none⟩ (.int .i32 1) → Calls Tryd.prog 83 #[.pointer (some pl)] w' fun e w' => e = .returned (.tuple #[]) ∧ R w') :
    Calls Tryd.prog 87 #[.pointer (some ⟨g, 0, none⟩), .func (.func 83) #[] #[.pointer (some pl)]] w fun e w' => e = .returned (.tuple #[]) ∧ ∃ w2, R w2 ∧ w' = (w2.drew.setCell ⟨g, 0, none⟩ (.int .u32 1)).setCell ⟨g, 1, none⟩ (.int .i32 0) := by
  have hc1 : w.cell? ⟨g, 1, none⟩ = some (.int .i32 0) := cell_of_blk h
  have hz1 : w.frozen? ⟨g, 1, none⟩ = false := frozen_of_blk h
  have hb1 : CellR (w.setCell ⟨g, 1, none⟩ (.int .i32 1)) g 0 1 m f t := setCell_blk h _
  have hc0 : (w.setCell ⟨g, 1, none⟩ (.int .i32 1)).cell? ⟨g, 0, none⟩ = some (.int .u32 0) := cell_of_blk hb1
  have HCL := Aside0.mk (hcl _ hb1 rfl)
  have HR := Aside0.mk hR
  clear hcl hR
  go_enter_defers Tryd.func87, Tryd.ntmps87
  go_wp2_with (first
    | (go_at_call 89; refine (lock_free ⟨g, 1, none⟩ _ hc1 hz1).mono ?_; rintro e w' ⟨rfl, rfl⟩)
    | (go_at_call 86; refine (loadB ⟨g, 0, none⟩ 0 _ hc0 (.inl rfl)).mono ?_; rintro e w' ⟨rfl, rfl⟩)
    | (go_at_call 83; refine HCL.out.mono ?_; rintro e w2 ⟨rfl, hr2⟩))
  have h2 := HR.out w2 hr2
  have hs0 : w2.cell? ⟨g, 0, none⟩ = some (.int .u32 0) := cell_of_blk h2
  have hf0 : w2.frozen? ⟨g, 0, none⟩ = false := frozen_of_blk h2
  have h3 : CellR (w2.drew.setCell ⟨g, 0, none⟩ (.int .u32 1)) g 1 1 m f s := setCell_blk (w := w2.drew) h2 _
  have hs1 : (w2.drew.setCell ⟨g, 0, none⟩ (.int .u32 1)).cell? ⟨g, 1, none⟩ = some (.int .i32 1) := cell_of_blk h3
  have hf1 : (w2.drew.setCell ⟨g, 0, none⟩ (.int .u32 1)).frozen? ⟨g, 1, none⟩ = false := frozen_of_blk h3
  refine leaves_cons (f := 81) (args := #[.pointer (some ⟨g, 0, none⟩), .bool true]) (by simp) (by simp [go_sem]) ?_
  refine (store_deferred ⟨g, 0, none⟩ (.int .u32 0) .returning _ hs0 hf0).mono ?_
  rintro e u' w'' ⟨rfl, rfl, rfl⟩
  refine leaves_cons (f := 90) (args := #[.pointer (some ⟨g, 1, none⟩)]) (by simp [settle]) (by simp [go_sem]) ?_
  refine (unlock_deferred ⟨g, 1, none⟩ _ _ hs1 hf1).mono ?_
  rintro e u' w'' ⟨rfl, rfl, rfl⟩
  exact ⟨_, results_none rfl _ _ _, rfl, w2, hr2, rfl⟩
theorem lzDo_first (g : Nat) (pl : Addr) (m : Int) (f : Value) (t s : ByteArray) (w : World) (h : CellR w g 0 0 m f t) (R : World → Prop) (hR : ∀ w', R w' → CellR w' g 0 1 m f s)
    (hcl : ∀ w', CellR w' g 0 1 m f t → w' = w.setCell ⟨g, 1, none⟩ (.int .i32 1) → Calls Tryd.prog 83 #[.pointer (some pl)] w' fun e w' => e = .returned (.tuple #[]) ∧ R w') :
    Calls Tryd.prog 82 #[.pointer (some ⟨g, 0, none⟩), .func (.func 83) #[] #[.pointer (some pl)]] w fun e w' => e = .returned (.tuple #[]) ∧ ∃ w2, R w2 ∧ w' = (w2.drew.setCell ⟨g, 0, none⟩ (.int .u32 1)).setCell ⟨g, 1, none⟩ (.int .i32 0) := by
  have hc : w.cell? ⟨g, 0, none⟩ = some (.int .u32 0) := cell_of_blk h
  have HS := Aside0.mk (lzSlow g pl m f t s w h R hR hcl)
  clear hcl hR
  go_enter Tryd.func82, Tryd.ntmps82
  go_wp2_with fail
  refine (loadB _ 0 w hc (.inl rfl)).mono ?_
  rintro e w1 ⟨rfl, rfl⟩
  go_wp2_with fail
  refine HS.out.mono ?_
  rintro e w1 ⟨rfl, w2, hr2, hw1⟩
  have HW1 := Aside0.mk hw1
  have HR2 := Aside0.mk hr2
  clear hw1 hr2
  go_wp2_with fail
  go_end0
  exact ⟨rfl, w2, HR2.out, HW1.out⟩
set_option maxRecDepth 100000 in
set_option maxHeartbeats 1600000 in
/-- What the cell's own closure does: the text is made. -/
theorem lzClo (g : Nat) (pl : Addr) (hne : pl.block ≠ g) (k m : Int) (F : FuncId) (cap : Array Value) (hent : ∀ w, (callFunc F cap).run Tryd.prog w = .ok (.enter F cap) w) (t s : ByteArray) (w : World) (h : CellR w g 0 k m (.func (.func F) #[] cap) t) (hpl : w.cell? pl = some (.pointer (some ⟨g, 0, none⟩))) (J : World → Prop)
    (hF : Calls Tryd.prog F cap w.drew fun e w'' => e = .returned (.string s) ∧ J w'' ∧ CellR w'' g 0 k m (.func (.func F) #[] cap) t ∧ w''.cell? pl = some (.pointer (some ⟨g, 0, none⟩))) :
    Calls Tryd.prog 83 #[.pointer (some pl)] w fun e w' => e = .returned (.tuple #[]) ∧ ∃ w2, J w2 ∧ CellR w2 g 0 k m (.func (.func F) #[] cap) t ∧ w2.cell? pl = some (.pointer (some ⟨g, 0, none⟩)) ∧ w' = w2.setCell ⟨g, 5, none⟩ (.string s) := by
  have hc4 : w.cell? ⟨g, 4, none⟩ = some (.func (.func F) #[] cap) := cell_of_blk h
  have HF := Aside0.mk hF
  have hnf : ∀ w, (binOp .neq 114 (.func (.func F) #[] cap) .nilFunc).run Tryd.prog w = .ok (.bool true) w := fun w => by rfl
  have hd0 : w.drew.cell? pl = some (.pointer (some ⟨g, 0, none⟩)) := below_cellz (below_drew1 (Below.refl _ _)) hpl
  have hd4 : w.drew.cell? ⟨g, 4, none⟩ = some (.func (.func F) #[] cap) := below_cellz (below_drew1 (Below.refl _ _)) hc4
  clear hF
  go_enter Tryd.func83, Tryd.ntmps83
  go_wp2_with fail
  go_region_held3 (fun w' => w'.cell? pl = some (.pointer (some ⟨g, 0, none⟩)) ∧ w'.cell? ⟨g, 4, none⟩ = some (.func (.func F) #[] cap)) (first | exact ⟨hd0, hd4⟩ | exact ⟨he0, he4⟩ | exact ⟨hf0, hf4⟩)
   (first
    | (refine HF.out.mono ?_; rintro e w2 ⟨rfl, hj2, h2, he0⟩; have he4 : w2.cell? ⟨g, 4, none⟩ = some (.func (.func F) #[] cap) := cell_of_blk h2; have he5 : w2.cell? ⟨g, 5, none⟩ = some (.string t) := cell_of_blk h2; have hz5 : w2.frozen? ⟨g, 5, none⟩ = false := frozen_of_blk h2; have h3 : CellR (w2.setCell ⟨g, 5, none⟩ (.string s)) g 0 k m (.func (.func F) #[] cap) s := setCell_blk h2 _; have hf4 : (w2.setCell ⟨g, 5, none⟩ (.string s)).cell? ⟨g, 4, none⟩ = some (.func (.func F) #[] cap) := cell_of_blk h3; have hf0 : (w2.setCell ⟨g, 5, none⟩ (.string s)).cell? pl = some (.pointer (some ⟨g, 0, none⟩)) := (World.cell?_of_block (setCell_other (g := pl.block) ⟨g, 5, none⟩ _ hne)).trans he0; have HJ2 := Aside0.mk hj2; have H2 := Aside0.mk h2; clear hj2 h2 h3))
  all_goals
    go_wp2_with fail
    go_end0
    exact ⟨rfl, w2, HJ2.out, H2.out, he0, rfl⟩
end Go.Proofs.YthdinhgadefgaaaDoor.K
