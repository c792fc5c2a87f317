/- The machine: instructions. -/
import Derived.Test.YthdinhgadefgaaaDoorM7
import Derived.Deep.RegionHeldLaw
set_option linter.unusedVariables false
set_option linter.unusedSimpArgs false
set_option maxRecDepth 100000
namespace Go.Proofs.YthdinhgadefgaaaDoor.K
open Go.RowKit Go.Proofs.YthdinhgadefgaaaDoorW.PrintWords Go.Proofs.YthdinhgadefgaaaDoorW.PrintLast Go.Proofs.YthdinhgadefgaaaDoorW.PrintMore Go.Proofs.YthdinhgadefgaaaDoor.U Go.Proofs.YthdinhgadefgaaaDoor.T Go.Proofs.YthdinhgadefgaaaDoor.V
set_option maxHeartbeats 3200000 in
theorem does_16 (W0 : World) (hE : Env W0) (R : Nat) (pV : Value) (key : ByteArray) (fuel : Int) (s : St) (w : World) (h : VmR W0 R pV key fuel s w) (hs : SOk s) (a : Int) (sb : ByteArray) :
    Calls Tryd.prog 47 #[.pointer (some ⟨R, 0, none⟩), .agg #[.int .i64 16, .int .i64 a, .string sb]] w fun e w' => e = .returned (.int .i64 (doesF key s 16 a sb).1) ∧ VmR W0 R pV key fuel (doesF key s 16 a sb).2 w' := by
  obtain ⟨gi, hgi⟩ : ∃ g, g = w.heap.size := ⟨_, rfl⟩
  obtain ⟨wA, hwA⟩ : ∃ w', w' = w.alloc (.cells #[.int .i64 16, .int .i64 a, .string sb] 51) := ⟨_, rfl⟩
  have hbA := (Below.refl w.heap.size w).alloc (Nat.le_refl _) (.cells #[.int .i64 16, .int .i64 a, .string sb] 51)
  rw [← hwA] at hbA
  have hiA : wA.heap[gi]? = some (.cells ([.int .i64 16, .int .i64 a, .string sb] : List Value).toArray 51 (0, 0)) := by rw [hwA, hgi]; exact alloc_at w _
  have hiR : gi ≠ R := by
    obtain ⟨_, _, _, _, h'⟩ := h
    have := blk_lt' h'.blk
    omega
  have HT := Aside0.mk (taken W0 R pV key fuel s wA (h.below hbA) hs 16 (by decide) (by decide))
  have ci0 : wA.cell? ⟨gi, 0, none⟩ = some (.int .i64 16) := cell_of_blk hiA
  have HIA := Aside0.mk hiA
  have HWA := Aside0.mk hwA
  have HGI := Aside0.mk hgi
  have HE := Aside0.mk hE
  have HSO := Aside0.mk hs
  clear hbA hiA hwA hgi hE hs h
  go_enter Tryd.func47, Tryd.ntmps47
  go_upto_region 1 with (fail)
  rw [← HGI.out, ← HWA.out]
  go_wp2_with fail
  refine HT.out.mono ?_
  rintro e w1 (⟨why, hwhy, rfl, hV, hF⟩ | ⟨A, c, vs, rfl, hvl, hC, hvo, hV, hch, hg, hF⟩)
  · have HV := Aside0.mk hV
    have HF := Aside0.mk (hF a sb)
    clear hV hF
    rcases hwhy with rfl | rfl
    all_goals
      go_wp2_with fail
      go_ret
      exact ⟨by rw [HF.out]; rfl, by rw [HF.out]; exact HV.out⟩
  · rw [show (kindL 16).length = 3 from rfl]
    have hi1 := hch.blk HIA.out hiR
    have ci0 : w1.cell? ⟨gi, 0, none⟩ = some (.int .i64 16) := cell_of_blk hi1
    have ci1 : w1.cell? ⟨gi, 1, none⟩ = some (.int .i64 a) := cell_of_blk hi1
    have ci2 : w1.cell? ⟨gi, 2, none⟩ = some (.string sb) := cell_of_blk hi1
    have HV := Aside0.mk hV
    have HF := Aside0.mk (hF a sb)
    have hfi : Free w1 R gi := ⟨hiR, fun v hv e => by
      obtain ⟨sV, _, _, _, h'⟩ := hV
      rw [h'.cell 7] at hv
      injection hv with hv
      subst hv
      obtain ⟨cs, h2⟩ := own_blkM h'.stk e
      exact blk_neM h2 hi1 (by decide) rfl⟩
    have hc7 : ∃ v, w1.cell? ⟨R, 7, none⟩ = some v := by obtain ⟨_, _, _, _, h'⟩ := hV; exact ⟨_, h'.cell 7⟩
    have hh0 : HeldM w1 w1.drew := HeldM.drew _
    have hhd : ∀ o, HeldM w1 (w1.alloc o).drew := fun o => below_drew1 ((Below.refl _ _).alloc (Nat.le_refl _) o)
    have hhl : ∀ w' o, HeldM w1 w' → HeldM w1 (w'.alloc o) := fun w' o h => Below.alloc (h : Below w1.heap.size w1 w') h.size o
    match vs, hvl with
    | [v0, v1, v2], _ =>
    obtain ⟨g, arr, rfl, hgb, hgf⟩ := hg (by decide)
    have hk0 := val_cells hC 0 v0 rfl
    have g0 : w1.cell? ⟨g, 0, none⟩ = some (.bool v0.text) := hk0.1
    have g1 : w1.cell? ⟨g, 1, none⟩ = some (.int .i64 v0.int) := hk0.2.1
    have g2 : w1.cell? ⟨g, 2, none⟩ = some (.string v0.bytes) := hk0.2.2
    have HO0 := Aside0.mk (hvo v0 (by simp))
    obtain ⟨t0, i0, b0⟩ := v0
    simp only at g0 g1 g2
    have hsz0 : b0.size ≤ 64 := HO0.out.b
    have hk1 := val_cells hC 1 v1 rfl
    have g3 : w1.cell? ⟨g, 3, none⟩ = some (.bool v1.text) := hk1.1
    have g4 : w1.cell? ⟨g, 4, none⟩ = some (.int .i64 v1.int) := hk1.2.1
    have g5 : w1.cell? ⟨g, 5, none⟩ = some (.string v1.bytes) := hk1.2.2
    have HO1 := Aside0.mk (hvo v1 (by simp))
    obtain ⟨t1, i1, b1⟩ := v1
    simp only at g3 g4 g5
    have hsz1 : b1.size ≤ 64 := HO1.out.b
    have hk2 := val_cells hC 2 v2 rfl
    have g6 : w1.cell? ⟨g, 6, none⟩ = some (.bool v2.text) := hk2.1
    have g7 : w1.cell? ⟨g, 7, none⟩ = some (.int .i64 v2.int) := hk2.2.1
    have g8 : w1.cell? ⟨g, 8, none⟩ = some (.string v2.bytes) := hk2.2.2
    have HO2 := Aside0.mk (hvo v2 (by simp))
    obtain ⟨t2, i2, b2⟩ := v2
    simp only at g6 g7 g8
    have hsz2 : b2.size ≤ 64 := HO2.out.b
    have HSG : Aside0 (∀ w' : World, w'.heap[g]? = w1.heap[g]? → w'.cell? ⟨g, 0, none⟩ = some (.bool t0) ∧ w'.cell? ⟨g, 1, none⟩ = some (.int .i64 i0) ∧ w'.cell? ⟨g, 2, none⟩ = some (.string b0) ∧ w'.cell? ⟨g, 3, none⟩ = some (.bool t1) ∧ w'.cell? ⟨g, 4, none⟩ = some (.int .i64 i1) ∧ w'.cell? ⟨g, 5, none⟩ = some (.string b1) ∧ w'.cell? ⟨g, 6, none⟩ = some (.bool t2) ∧ w'.cell? ⟨g, 7, none⟩ = some (.int .i64 i2) ∧ w'.cell? ⟨g, 8, none⟩ = some (.string b2)) := ⟨fun w' hw => ⟨(World.cell?_of_block hw).trans g0, (World.cell?_of_block hw).trans g1, (World.cell?_of_block hw).trans g2, (World.cell?_of_block hw).trans g3, (World.cell?_of_block hw).trans g4, (World.cell?_of_block hw).trans g5, (World.cell?_of_block hw).trans g6, (World.cell?_of_block hw).trans g7, (World.cell?_of_block hw).trans g8⟩⟩
    have HP : Aside0 (∀ w', HeldM w1 w' → ∀ A c vs, Kd.C kValM w' A vs.length vs → vs.length ≤ 1000 → Calls Tryd.prog 58 #[.pointer (some ⟨R, 0, none⟩), .slice A vs.length c] w' fun e w'' => e = .returned (.int .i64 (pushP (popS s 16) vs).1) ∧ VmR W0 R pV key fuel (pushP (popS s 16) vs).2 w'' ∧ (w''.cell? ⟨g, 0, none⟩ = some (.bool t0) ∧ w''.cell? ⟨g, 1, none⟩ = some (.int .i64 i0) ∧ w''.cell? ⟨g, 2, none⟩ = some (.string b0) ∧ w''.cell? ⟨g, 3, none⟩ = some (.bool t1) ∧ w''.cell? ⟨g, 4, none⟩ = some (.int .i64 i1) ∧ w''.cell? ⟨g, 5, none⟩ = some (.string b1) ∧ w''.cell? ⟨g, 6, none⟩ = some (.bool t2) ∧ w''.cell? ⟨g, 7, none⟩ = some (.int .i64 i2) ∧ w''.cell? ⟨g, 8, none⟩ = some (.string b2))) := ⟨fun w' hb A c vs hC hl => by
      have hb' : Below w1.heap.size w1 w' := hb
      refine (push W0 R pV key fuel (popS s 16) w' (hV.below hb') A c vs hC ⟨by have := (HSO.out.pop 16).sl; omega, hl⟩).mono ?_
      rintro e w'' ⟨rfl, h2, h3⟩
      obtain ⟨v7, hv7⟩ := hc7
      exact ⟨rfl, h2, HSG.out _ ((h3 g _ ((hb'.block g (blk_lt' hgb)).trans hgb) (hgf.below hv7 hb')).trans hgb.symm)⟩⟩
    have HK : Aside0 (∀ w', HeldM w1 w' → w'.cell? ⟨g, 0, none⟩ = some (.bool t0) ∧ w'.cell? ⟨g, 1, none⟩ = some (.int .i64 i0) ∧ w'.cell? ⟨g, 2, none⟩ = some (.string b0) ∧ w'.cell? ⟨g, 3, none⟩ = some (.bool t1) ∧ w'.cell? ⟨g, 4, none⟩ = some (.int .i64 i1) ∧ w'.cell? ⟨g, 5, none⟩ = some (.string b1) ∧ w'.cell? ⟨g, 6, none⟩ = some (.bool t2) ∧ w'.cell? ⟨g, 7, none⟩ = some (.int .i64 i2) ∧ w'.cell? ⟨g, 8, none⟩ = some (.string b2)) := ⟨fun w' hb => HSG.out _ ((show Below w1.heap.size w1 w' from hb).block g (blk_lt' hgb))⟩
    have HVW := Aside0.mk hV
    have hu := Tryd.underlying23
    have HCU : Aside0 (∀ w', HeldM w1 w' → Calls Tryd.prog 20 #[.string b0, .int .i64 i1, .int .i64 i2] w' fun e w'' => e = .returned (.string (cutB b0 i1 i2)) ∧ HeldM w1 w'') := ⟨fun w' h => (valCut b0 i1 i2 w' (by omega)).mono (fun e w'' k => ⟨k.1, by rw [k.2]; exact h⟩)⟩
    obtain ⟨q, hq⟩ : ∃ q, q = cutB b0 i1 i2 := ⟨_, rfl⟩
    rw [← hq] at HCU
    have HQ := Aside0.mk hq
    clear hq
    clear hV hF hC hvo hch hg hi1 hfi hc7 hgb hgf hk0 hk1 hk2
    have HBY : Aside0 (∀ w', HeldM w1 w' → Calls Tryd.prog 27 #[.string q] w' fun e w'' => e = .returned (.agg #[.bool true, .int .i64 0, .string q]) ∧ HeldM w1 w'') := ⟨fun w' h => (valBytes _ w').mono (fun e w'' k => ⟨k.1, h.below k.2⟩)⟩
    go_wp2_with fail
    go_region_held3 (fun w' => w'.cell? ⟨g, 0, none⟩ = some (.bool t0) ∧ w'.cell? ⟨g, 1, none⟩ = some (.int .i64 i0) ∧ w'.cell? ⟨g, 2, none⟩ = some (.string b0) ∧ w'.cell? ⟨g, 3, none⟩ = some (.bool t1) ∧ w'.cell? ⟨g, 4, none⟩ = some (.int .i64 i1) ∧ w'.cell? ⟨g, 5, none⟩ = some (.string b1) ∧ w'.cell? ⟨g, 6, none⟩ = some (.bool t2) ∧ w'.cell? ⟨g, 7, none⟩ = some (.int .i64 i2) ∧ w'.cell? ⟨g, 8, none⟩ = some (.string b2)) (first | assumption | exact HK.out _ (by first | assumption | exact hhd _ | exact hhl _ _ (by assumption)))
     (first
      | (go_at_call 20; ((with_reducible refine (HCU.out _ (by first | assumption | exact hhd _ | exact hhl _ _ (by assumption))).mono ?_); rintro e wx ⟨rfl, hHx⟩))
      | (go_at_call 27; ((with_reducible refine (HBY.out _ (by first | assumption | exact hhd _ | exact hhl _ _ (by assumption))).mono ?_); rintro e wy ⟨rfl, hHy⟩))
      | (go_at_call 58; ((refine (HP.out _ (hhl _ _ hHy) _ _ [txtV q] (lit_vals wy _ _ _ rfl (by simp)) (by simp)).mono ?_); rintro e wz ⟨rfl, hV2, hSz⟩)))
    go_wp2_with fail
    go_ret
    rw [HQ.out] at hV2
    exact ⟨by rw [HF.out, HQ.out]; rfl, by rw [HF.out]; exact hV2⟩

set_option maxHeartbeats 3200000 in
theorem does_19 (W0 : World) (hE : Env W0) (R : Nat) (pV : Value) (key : ByteArray) (fuel : Int) (s : St) (w : World) (h : VmR W0 R pV key fuel s w) (hs : SOk s) (a : Int) (sb : ByteArray) :
    Calls Tryd.prog 47 #[.pointer (some ⟨R, 0, none⟩), .agg #[.int .i64 19, .int .i64 a, .string sb]] w fun e w' => e = .returned (.int .i64 (doesF key s 19 a sb).1) ∧ VmR W0 R pV key fuel (doesF key s 19 a sb).2 w' := by
  obtain ⟨gi, hgi⟩ : ∃ g, g = w.heap.size := ⟨_, rfl⟩
  obtain ⟨wA, hwA⟩ : ∃ w', w' = w.alloc (.cells #[.int .i64 19, .int .i64 a, .string sb] 51) := ⟨_, rfl⟩
  have hbA := (Below.refl w.heap.size w).alloc (Nat.le_refl _) (.cells #[.int .i64 19, .int .i64 a, .string sb] 51)
  rw [← hwA] at hbA
  have hiA : wA.heap[gi]? = some (.cells ([.int .i64 19, .int .i64 a, .string sb] : List Value).toArray 51 (0, 0)) := by rw [hwA, hgi]; exact alloc_at w _
  have hiR : gi ≠ R := by
    obtain ⟨_, _, _, _, h'⟩ := h
    have := blk_lt' h'.blk
    omega
  have HT := Aside0.mk (taken W0 R pV key fuel s wA (h.below hbA) hs 19 (by decide) (by decide))
  have ci0 : wA.cell? ⟨gi, 0, none⟩ = some (.int .i64 19) := cell_of_blk hiA
  have HIA := Aside0.mk hiA
  have HWA := Aside0.mk hwA
  have HGI := Aside0.mk hgi
  have HE := Aside0.mk hE
  have HSO := Aside0.mk hs
  clear hbA hiA hwA hgi hE hs h
  go_enter Tryd.func47, Tryd.ntmps47
  go_upto_region 1 with (fail)
  rw [← HGI.out, ← HWA.out]
  go_wp2_with fail
  refine HT.out.mono ?_
  rintro e w1 (⟨why, hwhy, rfl, hV, hF⟩ | ⟨A, c, vs, rfl, hvl, hC, hvo, hV, hch, hg, hF⟩)
  · have HV := Aside0.mk hV
    have HF := Aside0.mk (hF a sb)
    clear hV hF
    rcases hwhy with rfl | rfl
    all_goals
      go_wp2_with fail
      go_ret
      exact ⟨by rw [HF.out]; rfl, by rw [HF.out]; exact HV.out⟩
  · rw [show (kindL 19).length = 0 from rfl]
    have hi1 := hch.blk HIA.out hiR
    have ci0 : w1.cell? ⟨gi, 0, none⟩ = some (.int .i64 19) := cell_of_blk hi1
    have ci1 : w1.cell? ⟨gi, 1, none⟩ = some (.int .i64 a) := cell_of_blk hi1
    have ci2 : w1.cell? ⟨gi, 2, none⟩ = some (.string sb) := cell_of_blk hi1
    have HV := Aside0.mk hV
    have HF := Aside0.mk (hF a sb)
    have hfi : Free w1 R gi := ⟨hiR, fun v hv e => by
      obtain ⟨sV, _, _, _, h'⟩ := hV
      rw [h'.cell 7] at hv
      injection hv with hv
      subst hv
      obtain ⟨cs, h2⟩ := own_blkM h'.stk e
      exact blk_neM h2 hi1 (by decide) rfl⟩
    have hc7 : ∃ v, w1.cell? ⟨R, 7, none⟩ = some v := by obtain ⟨_, _, _, _, h'⟩ := hV; exact ⟨_, h'.cell 7⟩
    have hh0 : HeldM w1 w1.drew := HeldM.drew _
    have hhd : ∀ o, HeldM w1 (w1.alloc o).drew := fun o => below_drew1 ((Below.refl _ _).alloc (Nat.le_refl _) o)
    have hhl : ∀ w' o, HeldM w1 w' → HeldM w1 (w'.alloc o) := fun w' o h => Below.alloc (h : Below w1.heap.size w1 w') h.size o
    match vs, hvl with
    | [], _ =>
    have HP : Aside0 (∀ w', HeldM w1 w' → ∀ A c vs, Kd.C kValM w' A vs.length vs → vs.length ≤ 1000 → Calls Tryd.prog 58 #[.pointer (some ⟨R, 0, none⟩), .slice A vs.length c] w' fun e w'' => e = .returned (.int .i64 (pushP (popS s 19) vs).1) ∧ VmR W0 R pV key fuel (pushP (popS s 19) vs).2 w'' ∧ (True)) := ⟨fun w' hb A c vs hC hl => by
      have hb' : Below w1.heap.size w1 w' := hb
      refine (push W0 R pV key fuel (popS s 19) w' (hV.below hb') A c vs hC ⟨by have := (HSO.out.pop 19).sl; omega, hl⟩).mono ?_
      rintro e w'' ⟨rfl, h2, h3⟩
      obtain ⟨v7, hv7⟩ := hc7
      exact ⟨rfl, h2, trivial⟩⟩
    have HK : Aside0 (∀ w', HeldM w1 w' → True) := ⟨fun w' hb => trivial⟩
    have HVW := Aside0.mk hV
    have hu := Tryd.underlying23
    obtain ⟨sV, tV, vV, m, hW⟩ := HVW.out
    have r4 : w1.cell? ⟨R, 4, none⟩ = some (.int .i64 s.at_) := hW.cell 4
    have z4 : w1.frozen? ⟨R, 4, none⟩ = false := hW.frozen 4
    have HW2 := Aside0.mk (hW.upd (s' := { popS s 19 with at_ := a }) ((Ch.refl w1 _).setCell ⟨R, 4, none⟩ (.int .i64 a) rfl) (setCell_blk hW.blk (.int .i64 a)) hW.vals hW.regs hW.stk hW.tld)
    clear hV hF hC hvo hch hg hi1 hfi hc7 hW
    go_wp2_with fail
    go_ret
    exact ⟨by rw [HF.out]; rfl, by rw [HF.out]; exact ⟨_, _, _, _, HW2.out⟩⟩

set_option maxHeartbeats 3200000 in
theorem does_20 (W0 : World) (hE : Env W0) (R : Nat) (pV : Value) (key : ByteArray) (fuel : Int) (s : St) (w : World) (h : VmR W0 R pV key fuel s w) (hs : SOk s) (a : Int) (sb : ByteArray) :
    Calls Tryd.prog 47 #[.pointer (some ⟨R, 0, none⟩), .agg #[.int .i64 20, .int .i64 a, .string sb]] w fun e w' => e = .returned (.int .i64 (doesF key s 20 a sb).1) ∧ VmR W0 R pV key fuel (doesF key s 20 a sb).2 w' := by
  obtain ⟨gi, hgi⟩ : ∃ g, g = w.heap.size := ⟨_, rfl⟩
  obtain ⟨wA, hwA⟩ : ∃ w', w' = w.alloc (.cells #[.int .i64 20, .int .i64 a, .string sb] 51) := ⟨_, rfl⟩
  have hbA := (Below.refl w.heap.size w).alloc (Nat.le_refl _) (.cells #[.int .i64 20, .int .i64 a, .string sb] 51)
  rw [← hwA] at hbA
  have hiA : wA.heap[gi]? = some (.cells ([.int .i64 20, .int .i64 a, .string sb] : List Value).toArray 51 (0, 0)) := by rw [hwA, hgi]; exact alloc_at w _
  have hiR : gi ≠ R := by
    obtain ⟨_, _, _, _, h'⟩ := h
    have := blk_lt' h'.blk
    omega
  have HT := Aside0.mk (taken W0 R pV key fuel s wA (h.below hbA) hs 20 (by decide) (by decide))
  have ci0 : wA.cell? ⟨gi, 0, none⟩ = some (.int .i64 20) := cell_of_blk hiA
  have HIA := Aside0.mk hiA
  have HWA := Aside0.mk hwA
  have HGI := Aside0.mk hgi
  have HE := Aside0.mk hE
  have HSO := Aside0.mk hs
  clear hbA hiA hwA hgi hE hs h
  go_enter Tryd.func47, Tryd.ntmps47
  go_upto_region 1 with (fail)
  rw [← HGI.out, ← HWA.out]
  go_wp2_with fail
  refine HT.out.mono ?_
  rintro e w1 (⟨why, hwhy, rfl, hV, hF⟩ | ⟨A, c, vs, rfl, hvl, hC, hvo, hV, hch, hg, hF⟩)
  · have HV := Aside0.mk hV
    have HF := Aside0.mk (hF a sb)
    clear hV hF
    rcases hwhy with rfl | rfl
    all_goals
      go_wp2_with fail
      go_ret
      exact ⟨by rw [HF.out]; rfl, by rw [HF.out]; exact HV.out⟩
  · rw [show (kindL 20).length = 1 from rfl]
    have hi1 := hch.blk HIA.out hiR
    have ci0 : w1.cell? ⟨gi, 0, none⟩ = some (.int .i64 20) := cell_of_blk hi1
    have ci1 : w1.cell? ⟨gi, 1, none⟩ = some (.int .i64 a) := cell_of_blk hi1
    have ci2 : w1.cell? ⟨gi, 2, none⟩ = some (.string sb) := cell_of_blk hi1
    have HV := Aside0.mk hV
    have HF := Aside0.mk (hF a sb)
    have hfi : Free w1 R gi := ⟨hiR, fun v hv e => by
      obtain ⟨sV, _, _, _, h'⟩ := hV
      rw [h'.cell 7] at hv
      injection hv with hv
      subst hv
      obtain ⟨cs, h2⟩ := own_blkM h'.stk e
      exact blk_neM h2 hi1 (by decide) rfl⟩
    have hc7 : ∃ v, w1.cell? ⟨R, 7, none⟩ = some v := by obtain ⟨_, _, _, _, h'⟩ := hV; exact ⟨_, h'.cell 7⟩
    have hh0 : HeldM w1 w1.drew := HeldM.drew _
    have hhd : ∀ o, HeldM w1 (w1.alloc o).drew := fun o => below_drew1 ((Below.refl _ _).alloc (Nat.le_refl _) o)
    have hhl : ∀ w' o, HeldM w1 w' → HeldM w1 (w'.alloc o) := fun w' o h => Below.alloc (h : Below w1.heap.size w1 w') h.size o
    match vs, hvl with
    | [v0], _ =>
    obtain ⟨g, arr, rfl, hgb, hgf⟩ := hg (by decide)
    have hk0 := val_cells hC 0 v0 rfl
    have g0 : w1.cell? ⟨g, 0, none⟩ = some (.bool v0.text) := hk0.1
    have g1 : w1.cell? ⟨g, 1, none⟩ = some (.int .i64 v0.int) := hk0.2.1
    have g2 : w1.cell? ⟨g, 2, none⟩ = some (.string v0.bytes) := hk0.2.2
    have HO0 := Aside0.mk (hvo v0 (by simp))
    obtain ⟨t0, i0, b0⟩ := v0
    simp only at g0 g1 g2
    have hsz0 : b0.size ≤ 64 := HO0.out.b
    have HSG : Aside0 (∀ w' : World, w'.heap[g]? = w1.heap[g]? → w'.cell? ⟨g, 0, none⟩ = some (.bool t0) ∧ w'.cell? ⟨g, 1, none⟩ = some (.int .i64 i0) ∧ w'.cell? ⟨g, 2, none⟩ = some (.string b0)) := ⟨fun w' hw => ⟨(World.cell?_of_block hw).trans g0, (World.cell?_of_block hw).trans g1, (World.cell?_of_block hw).trans g2⟩⟩
    have HP : Aside0 (∀ w', HeldM w1 w' → ∀ A c vs, Kd.C kValM w' A vs.length vs → vs.length ≤ 1000 → Calls Tryd.prog 58 #[.pointer (some ⟨R, 0, none⟩), .slice A vs.length c] w' fun e w'' => e = .returned (.int .i64 (pushP (popS s 20) vs).1) ∧ VmR W0 R pV key fuel (pushP (popS s 20) vs).2 w'' ∧ (w''.cell? ⟨g, 0, none⟩ = some (.bool t0) ∧ w''.cell? ⟨g, 1, none⟩ = some (.int .i64 i0) ∧ w''.cell? ⟨g, 2, none⟩ = some (.string b0))) := ⟨fun w' hb A c vs hC hl => by
      have hb' : Below w1.heap.size w1 w' := hb
      refine (push W0 R pV key fuel (popS s 20) w' (hV.below hb') A c vs hC ⟨by have := (HSO.out.pop 20).sl; omega, hl⟩).mono ?_
      rintro e w'' ⟨rfl, h2, h3⟩
      obtain ⟨v7, hv7⟩ := hc7
      exact ⟨rfl, h2, HSG.out _ ((h3 g _ ((hb'.block g (blk_lt' hgb)).trans hgb) (hgf.below hv7 hb')).trans hgb.symm)⟩⟩
    have HK : Aside0 (∀ w', HeldM w1 w' → w'.cell? ⟨g, 0, none⟩ = some (.bool t0) ∧ w'.cell? ⟨g, 1, none⟩ = some (.int .i64 i0) ∧ w'.cell? ⟨g, 2, none⟩ = some (.string b0)) := ⟨fun w' hb => HSG.out _ ((show Below w1.heap.size w1 w' from hb).block g (blk_lt' hgb))⟩
    have HVW := Aside0.mk hV
    have hu := Tryd.underlying23
    obtain ⟨sV, tV, vV, m, hW⟩ := HVW.out
    have r4 : w1.cell? ⟨R, 4, none⟩ = some (.int .i64 s.at_) := hW.cell 4
    have z4 : w1.frozen? ⟨R, 4, none⟩ = false := hW.frozen 4
    have HW2 := Aside0.mk (hW.upd (s' := { popS s 20 with at_ := a }) ((Ch.refl w1 _).setCell ⟨R, 4, none⟩ (.int .i64 a) rfl) (setCell_blk hW.blk (.int .i64 a)) hW.vals hW.regs hW.stk hW.tld)
    clear hV hF hC hvo hch hg hi1 hfi hc7 hgb hgf hk0 hW
    by_cases h00 : i0 = 0
    · subst h00
      go_wp2_with fail
      go_ret
      exact ⟨by rw [HF.out]; rfl, by rw [HF.out]; exact HVW.out⟩
    · have h01 : (i0 == 0) = false := by simpa using h00
      have h02 : (i0 != 0) = true := by simpa using h00
      have HNZ := Aside0.mk h00
      go_wp2_with fail
      go_ret
      have hq : opS key (popS s 20) (20 : Int).toNat a sb [⟨t0, i0, b0⟩] = (0, { popS s 20 with at_ := a }) := by
        show ((0 : Int), if i0 = 0 then popS s 20 else { popS s 20 with at_ := a }) = _
        rw [if_neg HNZ.out]
      exact ⟨by rw [HF.out, hq]; rfl, by rw [HF.out, hq]; exact ⟨_, _, _, _, HW2.out⟩⟩

set_option maxHeartbeats 3200000 in
theorem does_23 (W0 : World) (hE : Env W0) (R : Nat) (pV : Value) (key : ByteArray) (fuel : Int) (s : St) (w : World) (h : VmR W0 R pV key fuel s w) (hs : SOk s) (a : Int) (sb : ByteArray) :
    Calls Tryd.prog 47 #[.pointer (some ⟨R, 0, none⟩), .agg #[.int .i64 23, .int .i64 a, .string sb]] w fun e w' => e = .returned (.int .i64 (doesF key s 23 a sb).1) ∧ VmR W0 R pV key fuel (doesF key s 23 a sb).2 w' := by
  obtain ⟨gi, hgi⟩ : ∃ g, g = w.heap.size := ⟨_, rfl⟩
  obtain ⟨wA, hwA⟩ : ∃ w', w' = w.alloc (.cells #[.int .i64 23, .int .i64 a, .string sb] 51) := ⟨_, rfl⟩
  have hbA := (Below.refl w.heap.size w).alloc (Nat.le_refl _) (.cells #[.int .i64 23, .int .i64 a, .string sb] 51)
  rw [← hwA] at hbA
  have hiA : wA.heap[gi]? = some (.cells ([.int .i64 23, .int .i64 a, .string sb] : List Value).toArray 51 (0, 0)) := by rw [hwA, hgi]; exact alloc_at w _
  have hiR : gi ≠ R := by
    obtain ⟨_, _, _, _, h'⟩ := h
    have := blk_lt' h'.blk
    omega
  have HT := Aside0.mk (taken W0 R pV key fuel s wA (h.below hbA) hs 23 (by decide) (by decide))
  have ci0 : wA.cell? ⟨gi, 0, none⟩ = some (.int .i64 23) := cell_of_blk hiA
  have HIA := Aside0.mk hiA
  have HWA := Aside0.mk hwA
  have HGI := Aside0.mk hgi
  have HE := Aside0.mk hE
  have HSO := Aside0.mk hs
  clear hbA hiA hwA hgi hE hs h
  go_enter Tryd.func47, Tryd.ntmps47
  go_upto_region 1 with (fail)
  rw [← HGI.out, ← HWA.out]
  go_wp2_with fail
  refine HT.out.mono ?_
  rintro e w1 (⟨why, hwhy, rfl, hV, hF⟩ | ⟨A, c, vs, rfl, hvl, hC, hvo, hV, hch, hg, hF⟩)
  · have HV := Aside0.mk hV
    have HF := Aside0.mk (hF a sb)
    clear hV hF
    rcases hwhy with rfl | rfl
    all_goals
      go_wp2_with fail
      go_ret
      exact ⟨by rw [HF.out]; rfl, by rw [HF.out]; exact HV.out⟩
  · rw [show (kindL 23).length = 2 from rfl]
    have hi1 := hch.blk HIA.out hiR
    have ci0 : w1.cell? ⟨gi, 0, none⟩ = some (.int .i64 23) := cell_of_blk hi1
    have ci1 : w1.cell? ⟨gi, 1, none⟩ = some (.int .i64 a) := cell_of_blk hi1
    have ci2 : w1.cell? ⟨gi, 2, none⟩ = some (.string sb) := cell_of_blk hi1
    have HV := Aside0.mk hV
    have HF := Aside0.mk (hF a sb)
    have hfi : Free w1 R gi := ⟨hiR, fun v hv e => by
      obtain ⟨sV, _, _, _, h'⟩ := hV
      rw [h'.cell 7] at hv
      injection hv with hv
      subst hv
      obtain ⟨cs, h2⟩ := own_blkM h'.stk e
      exact blk_neM h2 hi1 (by decide) rfl⟩
    have hc7 : ∃ v, w1.cell? ⟨R, 7, none⟩ = some v := by obtain ⟨_, _, _, _, h'⟩ := hV; exact ⟨_, h'.cell 7⟩
    have hh0 : HeldM w1 w1.drew := HeldM.drew _
    have hhd : ∀ o, HeldM w1 (w1.alloc o).drew := fun o => below_drew1 ((Below.refl _ _).alloc (Nat.le_refl _) o)
    have hhl : ∀ w' o, HeldM w1 w' → HeldM w1 (w'.alloc o) := fun w' o h => Below.alloc (h : Below w1.heap.size w1 w') h.size o
    match vs, hvl with
    | [v0, v1], _ =>
    obtain ⟨g, arr, rfl, hgb, hgf⟩ := hg (by decide)
    have hk0 := val_cells hC 0 v0 rfl
    have g0 : w1.cell? ⟨g, 0, none⟩ = some (.bool v0.text) := hk0.1
    have g1 : w1.cell? ⟨g, 1, none⟩ = some (.int .i64 v0.int) := hk0.2.1
    have g2 : w1.cell? ⟨g, 2, none⟩ = some (.string v0.bytes) := hk0.2.2
    have HO0 := Aside0.mk (hvo v0 (by simp))
    obtain ⟨t0, i0, b0⟩ := v0
    simp only at g0 g1 g2
    have hsz0 : b0.size ≤ 64 := HO0.out.b
    have hk1 := val_cells hC 1 v1 rfl
    have g3 : w1.cell? ⟨g, 3, none⟩ = some (.bool v1.text) := hk1.1
    have g4 : w1.cell? ⟨g, 4, none⟩ = some (.int .i64 v1.int) := hk1.2.1
    have g5 : w1.cell? ⟨g, 5, none⟩ = some (.string v1.bytes) := hk1.2.2
    have HO1 := Aside0.mk (hvo v1 (by simp))
    obtain ⟨t1, i1, b1⟩ := v1
    simp only at g3 g4 g5
    have hsz1 : b1.size ≤ 64 := HO1.out.b
    have HSG : Aside0 (∀ w' : World, w'.heap[g]? = w1.heap[g]? → w'.cell? ⟨g, 0, none⟩ = some (.bool t0) ∧ w'.cell? ⟨g, 1, none⟩ = some (.int .i64 i0) ∧ w'.cell? ⟨g, 2, none⟩ = some (.string b0) ∧ w'.cell? ⟨g, 3, none⟩ = some (.bool t1) ∧ w'.cell? ⟨g, 4, none⟩ = some (.int .i64 i1) ∧ w'.cell? ⟨g, 5, none⟩ = some (.string b1)) := ⟨fun w' hw => ⟨(World.cell?_of_block hw).trans g0, (World.cell?_of_block hw).trans g1, (World.cell?_of_block hw).trans g2, (World.cell?_of_block hw).trans g3, (World.cell?_of_block hw).trans g4, (World.cell?_of_block hw).trans g5⟩⟩
    have HP : Aside0 (∀ w', HeldM w1 w' → ∀ A c vs, Kd.C kValM w' A vs.length vs → vs.length ≤ 1000 → Calls Tryd.prog 58 #[.pointer (some ⟨R, 0, none⟩), .slice A vs.length c] w' fun e w'' => e = .returned (.int .i64 (pushP (popS s 23) vs).1) ∧ VmR W0 R pV key fuel (pushP (popS s 23) vs).2 w'' ∧ (w''.cell? ⟨g, 0, none⟩ = some (.bool t0) ∧ w''.cell? ⟨g, 1, none⟩ = some (.int .i64 i0) ∧ w''.cell? ⟨g, 2, none⟩ = some (.string b0) ∧ w''.cell? ⟨g, 3, none⟩ = some (.bool t1) ∧ w''.cell? ⟨g, 4, none⟩ = some (.int .i64 i1) ∧ w''.cell? ⟨g, 5, none⟩ = some (.string b1))) := ⟨fun w' hb A c vs hC hl => by
      have hb' : Below w1.heap.size w1 w' := hb
      refine (push W0 R pV key fuel (popS s 23) w' (hV.below hb') A c vs hC ⟨by have := (HSO.out.pop 23).sl; omega, hl⟩).mono ?_
      rintro e w'' ⟨rfl, h2, h3⟩
      obtain ⟨v7, hv7⟩ := hc7
      exact ⟨rfl, h2, HSG.out _ ((h3 g _ ((hb'.block g (blk_lt' hgb)).trans hgb) (hgf.below hv7 hb')).trans hgb.symm)⟩⟩
    have HK : Aside0 (∀ w', HeldM w1 w' → w'.cell? ⟨g, 0, none⟩ = some (.bool t0) ∧ w'.cell? ⟨g, 1, none⟩ = some (.int .i64 i0) ∧ w'.cell? ⟨g, 2, none⟩ = some (.string b0) ∧ w'.cell? ⟨g, 3, none⟩ = some (.bool t1) ∧ w'.cell? ⟨g, 4, none⟩ = some (.int .i64 i1) ∧ w'.cell? ⟨g, 5, none⟩ = some (.string b1)) := ⟨fun w' hb => HSG.out _ ((show Below w1.heap.size w1 w' from hb).block g (blk_lt' hgb))⟩
    have HVW := Aside0.mk hV
    have hu := Tryd.underlying23
    have HEM : Aside0 (Calls Tryd.prog 63 #[.pointer (some ⟨R, 0, none⟩), .string b0, .string b1] w1.drew fun e w'' => e = .returned (.int .i64 (emitW (popS s 23) b0)) ∧ VmR W0 R pV key fuel (emitS (popS s 23) b0 b1) w'' ∧ (w''.cell? ⟨g, 0, none⟩ = some (.bool t0) ∧ w''.cell? ⟨g, 1, none⟩ = some (.int .i64 i0) ∧ w''.cell? ⟨g, 2, none⟩ = some (.string b0) ∧ w''.cell? ⟨g, 3, none⟩ = some (.bool t1) ∧ w''.cell? ⟨g, 4, none⟩ = some (.int .i64 i1) ∧ w''.cell? ⟨g, 5, none⟩ = some (.string b1))) := ⟨by
      refine (vmEmit W0 R pV key fuel (popS s 23) w1.drew (hV.below (HeldM.drew w1)) b0 b1 (by omega)).mono ?_
      rintro e w'' ⟨rfl, h2, h3⟩
      exact ⟨rfl, h2, HSG.out _ ((h3 g _ (show w1.drew.heap[g]? = _ from hgb) hgf.1).trans hgb.symm)⟩⟩
    clear hV hF hC hvo hch hg hi1 hfi hc7 hgb hgf hk0 hk1
    go_wp2_with fail
    go_region_held3 (fun w' => w'.cell? ⟨g, 0, none⟩ = some (.bool t0) ∧ w'.cell? ⟨g, 1, none⟩ = some (.int .i64 i0) ∧ w'.cell? ⟨g, 2, none⟩ = some (.string b0) ∧ w'.cell? ⟨g, 3, none⟩ = some (.bool t1) ∧ w'.cell? ⟨g, 4, none⟩ = some (.int .i64 i1) ∧ w'.cell? ⟨g, 5, none⟩ = some (.string b1)) (first | assumption | exact HK.out _ (by first | assumption | exact hhd _ | exact hhl _ _ (by assumption)))
     (first
      | (go_at_call 63; ((refine HEM.out.mono ?_); rintro e wz ⟨rfl, hV2, hSz⟩)))
    go_wp2_with fail
    go_ret
    exact ⟨by rw [HF.out]; rfl, by rw [HF.out]; exact hV2⟩
end Go.Proofs.YthdinhgadefgaaaDoor.K
