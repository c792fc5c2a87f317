/- Get: the first time, and again. -/
import Derived.Test.YthdinhgadefgaaaDoorN2
set_option linter.unusedVariables false
set_option linter.unusedSimpArgs false
namespace Go.Proofs.YthdinhgadefgaaaDoor.K
open Go.RowKit Go.Proofs.YthdinhgadefgaaaDoorW.PrintWords Go.Proofs.YthdinhgadefgaaaDoorW.PrintLast Go.Proofs.YthdinhgadefgaaaDoorW.PrintMore Go.Proofs.YthdinhgadefgaaaDoor.U Go.Proofs.YthdinhgadefgaaaDoor.T

theorem CellR.ch {w w' : World} {g : Nat} {d k m : Int} {f : Value} {s : ByteArray} {S : Nat → Prop} (h : CellR w g d k m f s) (hc : Ch w w' S) (hS : ¬ S g) : CellR w' g d k m f s := hc.blk h hS
set_option maxRecDepth 100000 in
set_option maxHeartbeats 1600000 in
/-- Get, done already. -/
theorem lzGet_again (g : Nat) (m : Int) (f : Value) (s : ByteArray) (w : World) (h : CellR w g 1 0 m f s) :
    Calls Tryd.prog 77 #[.pointer (some ⟨g, 0, none⟩)] w fun e w' => e = .returned (.string s) ∧ CellR w' g 1 0 1 f s ∧ Ch w w' (fun k => k = g) := by
  have hmf : ∀ (fn : Fn) (first cap : Array Value) (w : World), (Instr.makeFunc fn first cap).run Tryd.prog w = .ok (.func fn first cap) w := fun _ _ _ _ => rfl
  obtain ⟨gl, hgl⟩ : ∃ gl, gl = w.heap.size := ⟨_, rfl⟩
  obtain ⟨wl, hwl⟩ : ∃ wl, wl = w.alloc (.cells #[.pointer (some ⟨g, 0, none⟩)] 112) := ⟨_, rfl⟩
  have hbl := (Below.refl w.heap.size w).alloc (Nat.le_refl _) (.cells #[.pointer (some ⟨g, 0, none⟩)] 112)
  rw [← hwl] at hbl
  have hL : wl.heap[gl]? = some (.cells ([.pointer (some ⟨g, 0, none⟩)] : List Value).toArray 112 (0, 0)) := by rw [hwl, hgl]; exact alloc_at w _
  have hglt : g < gl := by rw [hgl]; exact blk_lt' h
  have h1 : CellR wl g 1 0 m f s := (hbl.block g (blk_lt' h)).trans h
  have hpl : wl.cell? ⟨gl, 0, none⟩ = some (.pointer (some ⟨g, 0, none⟩)) := cell_of_blk hL
  have hc3 : wl.cell? ⟨g, 3, none⟩ = some (.int .u32 m) := cell_of_blk h1
  have hz3 : wl.frozen? ⟨g, 3, none⟩ = false := frozen_of_blk h1
  obtain ⟨w2, hw2⟩ : ∃ w2, w2 = wl.drew.setCell ⟨g, 3, none⟩ (.int .u32 1) := ⟨_, rfl⟩
  have h2 : CellR w2 g 1 0 1 f s := by rw [hw2]; exact setCell_blk (w := wl.drew) h1 _
  have hL2 : w2.heap[gl]? = some (.cells ([.pointer (some ⟨g, 0, none⟩)] : List Value).toArray 112 (0, 0)) := by rw [hw2]; exact (setCell_other (w := wl.drew) (g := gl) _ _ (by show gl ≠ g; omega)).trans hL
  have hpl2 : w2.cell? ⟨gl, 0, none⟩ = some (.pointer (some ⟨g, 0, none⟩)) := cell_of_blk hL2
  have hc5 : w2.cell? ⟨g, 5, none⟩ = some (.string s) := cell_of_blk h2
  have hc2 : Ch wl w2 (fun k => k = g) := by rw [hw2]; exact (Ch.of_below (below_drew1 (Below.refl _ _)) _).setCell _ _ rfl
  have HC2 := Aside0.mk ((Ch.of_below hbl (fun k => k = g)).trans hc2 (fun _ _ h => h))
  have H2 := Aside0.mk h2
  have HWL := Aside0.mk hwl
  have HGL := Aside0.mk hgl
  have HW2 := Aside0.mk hw2
  clear hbl hL h1 hL2 hc2 hwl hgl hw2 h
  go_enter Tryd.func77, Tryd.ntmps77
  go_upto_region 1 with (fail)
  rw [← HGL.out, ← HWL.out]
  go_wp2_with fail
  refine (storeB ⟨g, 3, none⟩ _ _ hc3 hz3).mono ?_
  rintro e w3 ⟨rfl, hw3⟩
  rw [← HW2.out] at hw3
  subst hw3
  clear hpl hc3 hz3
  go_wp2_with fail
  refine (lzDo_done g 1 f s _ _ H2.out).mono ?_
  rintro e w3 ⟨rfl, rfl⟩
  go_wp2_with fail
  go_ret
  exact ⟨rfl, H2.out, HC2.out⟩
set_option maxRecDepth 100000 in
set_option maxHeartbeats 1600000 in
/-- Get, the first time. -/
theorem lzGet_first (g : Nat) (m : Int) (F : FuncId) (cap : Array Value) (hent : ∀ w, (callFunc F cap).run Tryd.prog w = .ok (.enter F cap) w) (t s : ByteArray) (w : World) (h : CellR w g 0 0 m (.func (.func F) #[] cap) t)
    (I J : World → Prop) (Sf : Nat → Prop) (hI : I w) (hIs : ∀ w w', I w → Ch w w' (fun k => k = g) → I w') (hJs : ∀ w w', J w → Ch w w' (fun k => k = g) → J w') (hSg : ¬ Sf g) (hSl : ∀ k, Sf k → k < w.heap.size)
    (hF : ∀ w', I w' → Calls Tryd.prog F cap w' fun e w'' => e = .returned (.string s) ∧ J w'' ∧ Ch w' w'' Sf) :
    Calls Tryd.prog 77 #[.pointer (some ⟨g, 0, none⟩)] w fun e w' => e = .returned (.string s) ∧ CellR w' g 1 0 1 (.func (.func F) #[] cap) s ∧ J w' ∧ Ch w w' (fun k => k = g ∨ Sf k) := by
  have hmf : ∀ (fn : Fn) (first cap : Array Value) (w : World), (Instr.makeFunc fn first cap).run Tryd.prog w = .ok (.func fn first cap) w := fun _ _ _ _ => rfl
  obtain ⟨gl, hgl⟩ : ∃ gl, gl = w.heap.size := ⟨_, rfl⟩
  obtain ⟨wl, hwl⟩ : ∃ wl, wl = w.alloc (.cells #[.pointer (some ⟨g, 0, none⟩)] 112) := ⟨_, rfl⟩
  have hbl := (Below.refl w.heap.size w).alloc (Nat.le_refl _) (.cells #[.pointer (some ⟨g, 0, none⟩)] 112)
  rw [← hwl] at hbl
  have hL : wl.heap[gl]? = some (.cells ([.pointer (some ⟨g, 0, none⟩)] : List Value).toArray 112 (0, 0)) := by rw [hwl, hgl]; exact alloc_at w _
  have hglt : g < gl := by rw [hgl]; exact blk_lt' h
  have h1 : CellR wl g 0 0 m (.func (.func F) #[] cap) t := (hbl.block g (blk_lt' h)).trans h
  have hpl : wl.cell? ⟨gl, 0, none⟩ = some (.pointer (some ⟨g, 0, none⟩)) := cell_of_blk hL
  have hc3 : wl.cell? ⟨g, 3, none⟩ = some (.int .u32 m) := cell_of_blk h1
  have hz3 : wl.frozen? ⟨g, 3, none⟩ = false := frozen_of_blk h1
  obtain ⟨w2, hw2⟩ : ∃ w2, w2 = wl.drew.setCell ⟨g, 3, none⟩ (.int .u32 1) := ⟨_, rfl⟩
  have h2 : CellR w2 g 0 0 1 (.func (.func F) #[] cap) t := by rw [hw2]; exact setCell_blk (w := wl.drew) h1 _
  have hL2 : w2.heap[gl]? = some (.cells ([.pointer (some ⟨g, 0, none⟩)] : List Value).toArray 112 (0, 0)) := by rw [hw2]; exact (setCell_other (w := wl.drew) (g := gl) _ _ (by show gl ≠ g; omega)).trans hL
  have hpl2 : w2.cell? ⟨gl, 0, none⟩ = some (.pointer (some ⟨g, 0, none⟩)) := cell_of_blk hL2
  have hc2 : Ch wl w2 (fun k => k = g) := by rw [hw2]; exact (Ch.of_below (below_drew1 (Below.refl _ _)) _).setCell _ _ rfl
  have hcw : Ch w w2 (fun k => k = g) := (Ch.of_below hbl (fun k => k = g)).trans hc2 (fun _ _ h => h)
  have hI2 := hIs _ _ hI hcw
  have hng : ¬ gl = g := by omega
  have hnS : ¬ Sf gl := fun hs => by have := hSl gl hs; omega
  -- what stands behind the closure
  have hDo := lzDo_first g ⟨gl, 0, none⟩ 1 (.func (.func F) #[] cap) t s w2 h2
    (fun w' => J w' ∧ CellR w' g 0 1 1 (.func (.func F) #[] cap) s ∧ w'.heap[gl]? = some (.cells ([.pointer (some ⟨g, 0, none⟩)] : List Value).toArray 112 (0, 0)) ∧ Ch w2 w' (fun k => k = g ∨ Sf k)) (fun w' hR => hR.2.1)
    (fun w3 h3 e3 => by
      have hc23 : Ch w2 w3 (fun k => k = g) := by rw [e3]; exact (Ch.refl _ _).setCell _ _ rfl
      have hc3d : Ch w3 w3.drew (fun k => k = g) := Ch.of_below (below_drew1 (Below.refl _ _)) _
      have hI3 : I w3.drew := hIs _ _ (hIs _ _ hI2 hc23) hc3d
      have hL3 : w3.heap[gl]? = some (.cells ([.pointer (some ⟨g, 0, none⟩)] : List Value).toArray 112 (0, 0)) := hc23.blk hL2 hng
      refine (lzClo g ⟨gl, 0, none⟩ hng 1 1 F cap hent t s w3 h3 (cell_of_blk hL3) (fun w' => J w' ∧ w'.heap[gl]? = some (.cells ([.pointer (some ⟨g, 0, none⟩)] : List Value).toArray 112 (0, 0)) ∧ Ch w3.drew w' Sf) ?_).mono ?_
      · refine (hF w3.drew hI3).mono ?_
        rintro e w4 ⟨rfl, hj4, hc4⟩
        have hL4 := hc4.blk (show w3.drew.heap[gl]? = _ from hL3) hnS
        exact ⟨rfl, ⟨hj4, hL4, hc4⟩, hc4.blk (show w3.drew.heap[g]? = _ from h3) hSg, cell_of_blk hL4⟩
      · rintro e w5 ⟨rfl, w4, ⟨hj4, hL4, hc4⟩, h4, _, rfl⟩
        have hc45 : Ch w4 (w4.setCell ⟨g, 5, none⟩ (.string s)) (fun k => k = g) := (Ch.refl _ _).setCell _ _ rfl
        refine ⟨rfl, hJs _ _ hj4 hc45, setCell_blk h4 _, hc45.blk hL4 hng, ?_⟩
        exact (((hc23.trans hc3d (fun _ _ h => h)).mono (fun _ h => .inl h) : Ch w2 w3.drew (fun k => k = g ∨ Sf k)).trans hc4 (fun _ _ h => .inr h)).trans hc45 (fun _ _ h => .inl h))
  have HDO := Aside0.mk hDo
  have HJS := Aside0.mk hJs
  have HCW := Aside0.mk hcw
  have HWL := Aside0.mk hwl
  have HGL := Aside0.mk hgl
  have HW2 := Aside0.mk hw2
  clear hbl hL h1 hL2 hc2 hwl hgl hw2 h hDo hJs hIs hF hI hI2 hcw h2
  go_enter Tryd.func77, Tryd.ntmps77
  go_upto_region 1 with (fail)
  rw [← HGL.out, ← HWL.out]
  go_wp2_with fail
  refine (storeB ⟨g, 3, none⟩ _ _ hc3 hz3).mono ?_
  rintro e w3 ⟨rfl, hw3⟩
  rw [← HW2.out] at hw3
  subst hw3
  clear hpl hc3 hz3
  go_wp2_with fail
  refine HDO.out.mono ?_
  rintro e w3 ⟨rfl, w4, ⟨hj4, h4, hL4, hc4⟩, hw3⟩
  have h5 : CellR (w4.drew.setCell ⟨g, 0, none⟩ (.int .u32 1)) g 1 1 1 (.func (.func F) #[] cap) s := setCell_blk (w := w4.drew) h4 _
  have h6 : CellR w3 g 1 0 1 (.func (.func F) #[] cap) s := by rw [hw3]; exact setCell_blk h5 _
  have hc43 : Ch w4 w3 (fun k => k = g) := by
    rw [hw3]
    have a1 : Ch w4 w4.drew (fun k => k = g) := Ch.of_below (below_drew1 (Below.refl _ _)) _
    have a2 : Ch w4 (w4.drew.setCell ⟨g, 0, none⟩ (.int .u32 1)) (fun k => k = g) := a1.setCell ⟨g, 0, none⟩ _ rfl
    exact a2.setCell ⟨g, 1, none⟩ _ rfl
  have hL3 := hc43.blk hL4 hng
  have hpl3 : w3.cell? ⟨gl, 0, none⟩ = some (.pointer (some ⟨g, 0, none⟩)) := cell_of_blk hL3
  have hc5 : w3.cell? ⟨g, 5, none⟩ = some (.string s) := cell_of_blk h6
  have HFIN : Aside0 (CellR w3 g 1 0 1 (.func (.func F) #[] cap) s ∧ J w3 ∧ Ch w w3 (fun k => k = g ∨ Sf k)) := ⟨h6, HJS.out _ _ hj4 hc43, ((HCW.out.mono (fun _ h => .inl h) : Ch w _ (fun k => k = g ∨ Sf k)).trans hc4 (fun _ _ h => h)).trans hc43 (fun _ _ h => .inl h)⟩
  clear hj4 h4 hL4 hc4 hw3 h5 h6 hc43 hL3 hpl2
  go_wp2_with fail
  go_ret
  exact ⟨rfl, HFIN.out⟩
end Go.Proofs.YthdinhgadefgaaaDoor.K
