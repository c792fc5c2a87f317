/- The machine: instructions. -/
import Derived.Test.YthdinhgadefgaaaDoorM7
import Derived.Deep.RegionHeldLaw
set_option linter.unusedVariables false
set_option linter.unusedSimpArgs false
set_option maxRecDepth 100000
namespace Go.Proofs.YthdinhgadefgaaaDoor.K
open Go.RowKit Go.Proofs.YthdinhgadefgaaaDoorW.PrintWords Go.Proofs.YthdinhgadefgaaaDoorW.PrintLast Go.Proofs.YthdinhgadefgaaaDoorW.PrintMore Go.Proofs.YthdinhgadefgaaaDoor.U Go.Proofs.YthdinhgadefgaaaDoor.T Go.Proofs.YthdinhgadefgaaaDoor.V
set_option maxHeartbeats 3200000 in
theorem does_0 (W0 : World) (hE : Env W0) (R : Nat) (pV : Value) (key : ByteArray) (fuel : Int) (s : St) (w : World) (h : VmR W0 R pV key fuel s w) (hs : SOk s) (a : Int) (sb : ByteArray) :
    Calls Tryd.prog 47 #[.pointer (some ⟨R, 0, none⟩), .agg #[.int .i64 0, .int .i64 a, .string sb]] w fun e w' => e = .returned (.int .i64 (doesF key s 0 a sb).1) ∧ VmR W0 R pV key fuel (doesF key s 0 a sb).2 w' := by
  obtain ⟨gi, hgi⟩ : ∃ g, g = w.heap.size := ⟨_, rfl⟩
  obtain ⟨wA, hwA⟩ : ∃ w', w' = w.alloc (.cells #[.int .i64 0, .int .i64 a, .string sb] 51) := ⟨_, rfl⟩
  have hbA := (Below.refl w.heap.size w).alloc (Nat.le_refl _) (.cells #[.int .i64 0, .int .i64 a, .string sb] 51)
  rw [← hwA] at hbA
  have hiA : wA.heap[gi]? = some (.cells ([.int .i64 0, .int .i64 a, .string sb] : List Value).toArray 51 (0, 0)) := by rw [hwA, hgi]; exact alloc_at w _
  have hiR : gi ≠ R := by
    obtain ⟨_, _, _, _, h'⟩ := h
    have := blk_lt' h'.blk
    omega
  have HT := Aside0.mk (taken W0 R pV key fuel s wA (h.below hbA) hs 0 (by decide) (by decide))
  have ci0 : wA.cell? ⟨gi, 0, none⟩ = some (.int .i64 0) := cell_of_blk hiA
  have HIA := Aside0.mk hiA
  have HWA := Aside0.mk hwA
  have HGI := Aside0.mk hgi
  have HE := Aside0.mk hE
  have HSO := Aside0.mk hs
  clear hbA hiA hwA hgi hE hs h
  go_enter Tryd.func47, Tryd.ntmps47
  go_upto_region 1 with (fail)
  rw [← HGI.out, ← HWA.out]
  go_wp2_with fail
  refine HT.out.mono ?_
  rintro e w1 (⟨why, hwhy, rfl, hV, hF⟩ | ⟨A, c, vs, rfl, hvl, hC, hvo, hV, hch, hg, hF⟩)
  · have HV := Aside0.mk hV
    have HF := Aside0.mk (hF a sb)
    clear hV hF
    rcases hwhy with rfl | rfl
    all_goals
      go_wp2_with fail
      go_ret
      exact ⟨by rw [HF.out]; rfl, by rw [HF.out]; exact HV.out⟩
  · rw [show (kindL 0).length = 0 from rfl]
    have hi1 := hch.blk HIA.out hiR
    have ci0 : w1.cell? ⟨gi, 0, none⟩ = some (.int .i64 0) := cell_of_blk hi1
    have ci1 : w1.cell? ⟨gi, 1, none⟩ = some (.int .i64 a) := cell_of_blk hi1
    have ci2 : w1.cell? ⟨gi, 2, none⟩ = some (.string sb) := cell_of_blk hi1
    have HV := Aside0.mk hV
    have HF := Aside0.mk (hF a sb)
    have hfi : Free w1 R gi := ⟨hiR, fun v hv e => by
      obtain ⟨sV, _, _, _, h'⟩ := hV
      rw [h'.cell 7] at hv
      injection hv with hv
      subst hv
      obtain ⟨cs, h2⟩ := own_blkM h'.stk e
      exact blk_neM h2 hi1 (by decide) rfl⟩
    have hc7 : ∃ v, w1.cell? ⟨R, 7, none⟩ = some v := by obtain ⟨_, _, _, _, h'⟩ := hV; exact ⟨_, h'.cell 7⟩
    have hh0 : HeldM w1 w1.drew := HeldM.drew _
    have hhd : ∀ o, HeldM w1 (w1.alloc o).drew := fun o => below_drew1 ((Below.refl _ _).alloc (Nat.le_refl _) o)
    have hhl : ∀ w' o, HeldM w1 w' → HeldM w1 (w'.alloc o) := fun w' o h => Below.alloc (h : Below w1.heap.size w1 w') h.size o
    match vs, hvl with
    | [], _ =>
    have HP : Aside0 (∀ w', HeldM w1 w' → ∀ A c vs, Kd.C kValM w' A vs.length vs → vs.length ≤ 1000 → Calls Tryd.prog 58 #[.pointer (some ⟨R, 0, none⟩), .slice A vs.length c] w' fun e w'' => e = .returned (.int .i64 (pushP (popS s 0) vs).1) ∧ VmR W0 R pV key fuel (pushP (popS s 0) vs).2 w'' ∧ (True)) := ⟨fun w' hb A c vs hC hl => by
      have hb' : Below w1.heap.size w1 w' := hb
      refine (push W0 R pV key fuel (popS s 0) w' (hV.below hb') A c vs hC ⟨by have := (HSO.out.pop 0).sl; omega, hl⟩).mono ?_
      rintro e w'' ⟨rfl, h2, h3⟩
      obtain ⟨v7, hv7⟩ := hc7
      exact ⟨rfl, h2, trivial⟩⟩
    have HK : Aside0 (∀ w', HeldM w1 w' → True) := ⟨fun w' hb => trivial⟩
    have HVW := Aside0.mk hV
    have hu := Tryd.underlying23
    obtain ⟨sV, tV, vV, m, hW⟩ := HVW.out
    have r6 : w1.cell? ⟨R, 6, none⟩ = some (.bool s.halted) := hW.cell 6
    have z6 : w1.frozen? ⟨R, 6, none⟩ = false := hW.frozen 6
    have HW2 := Aside0.mk (hW.upd (s' := { popS s 0 with halted := true }) ((Ch.refl w1 _).setCell ⟨R, 6, none⟩ (.bool true) rfl) (setCell_blk hW.blk (.bool true)) hW.vals hW.regs hW.stk hW.tld)
    clear hV hF hC hvo hch hg hi1 hfi hc7 hW
    go_wp2_with fail
    go_ret
    exact ⟨by rw [HF.out]; rfl, by rw [HF.out]; exact ⟨_, _, _, _, HW2.out⟩⟩

set_option maxHeartbeats 3200000 in
theorem does_1 (W0 : World) (hE : Env W0) (R : Nat) (pV : Value) (key : ByteArray) (fuel : Int) (s : St) (w : World) (h : VmR W0 R pV key fuel s w) (hs : SOk s) (a : Int) (sb : ByteArray) :
    Calls Tryd.prog 47 #[.pointer (some ⟨R, 0, none⟩), .agg #[.int .i64 1, .int .i64 a, .string sb]] w fun e w' => e = .returned (.int .i64 (doesF key s 1 a sb).1) ∧ VmR W0 R pV key fuel (doesF key s 1 a sb).2 w' := by
  obtain ⟨gi, hgi⟩ : ∃ g, g = w.heap.size := ⟨_, rfl⟩
  obtain ⟨wA, hwA⟩ : ∃ w', w' = w.alloc (.cells #[.int .i64 1, .int .i64 a, .string sb] 51) := ⟨_, rfl⟩
  have hbA := (Below.refl w.heap.size w).alloc (Nat.le_refl _) (.cells #[.int .i64 1, .int .i64 a, .string sb] 51)
  rw [← hwA] at hbA
  have hiA : wA.heap[gi]? = some (.cells ([.int .i64 1, .int .i64 a, .string sb] : List Value).toArray 51 (0, 0)) := by rw [hwA, hgi]; exact alloc_at w _
  have hiR : gi ≠ R := by
    obtain ⟨_, _, _, _, h'⟩ := h
    have := blk_lt' h'.blk
    omega
  have HT := Aside0.mk (taken W0 R pV key fuel s wA (h.below hbA) hs 1 (by decide) (by decide))
  have ci0 : wA.cell? ⟨gi, 0, none⟩ = some (.int .i64 1) := cell_of_blk hiA
  have HIA := Aside0.mk hiA
  have HWA := Aside0.mk hwA
  have HGI := Aside0.mk hgi
  have HE := Aside0.mk hE
  have HSO := Aside0.mk hs
  clear hbA hiA hwA hgi hE hs h
  go_enter Tryd.func47, Tryd.ntmps47
  go_upto_region 1 with (fail)
  rw [← HGI.out, ← HWA.out]
  go_wp2_with fail
  refine HT.out.mono ?_
  rintro e w1 (⟨why, hwhy, rfl, hV, hF⟩ | ⟨A, c, vs, rfl, hvl, hC, hvo, hV, hch, hg, hF⟩)
  · have HV := Aside0.mk hV
    have HF := Aside0.mk (hF a sb)
    clear hV hF
    rcases hwhy with rfl | rfl
    all_goals
      go_wp2_with fail
      go_ret
      exact ⟨by rw [HF.out]; rfl, by rw [HF.out]; exact HV.out⟩
  · rw [show (kindL 1).length = 0 from rfl]
    have hi1 := hch.blk HIA.out hiR
    have ci0 : w1.cell? ⟨gi, 0, none⟩ = some (.int .i64 1) := cell_of_blk hi1
    have ci1 : w1.cell? ⟨gi, 1, none⟩ = some (.int .i64 a) := cell_of_blk hi1
    have ci2 : w1.cell? ⟨gi, 2, none⟩ = some (.string sb) := cell_of_blk hi1
    have HV := Aside0.mk hV
    have HF := Aside0.mk (hF a sb)
    have hfi : Free w1 R gi := ⟨hiR, fun v hv e => by
      obtain ⟨sV, _, _, _, h'⟩ := hV
      rw [h'.cell 7] at hv
      injection hv with hv
      subst hv
      obtain ⟨cs, h2⟩ := own_blkM h'.stk e
      exact blk_neM h2 hi1 (by decide) rfl⟩
    have hc7 : ∃ v, w1.cell? ⟨R, 7, none⟩ = some v := by obtain ⟨_, _, _, _, h'⟩ := hV; exact ⟨_, h'.cell 7⟩
    have hh0 : HeldM w1 w1.drew := HeldM.drew _
    have hhd : ∀ o, HeldM w1 (w1.alloc o).drew := fun o => below_drew1 ((Below.refl _ _).alloc (Nat.le_refl _) o)
    have hhl : ∀ w' o, HeldM w1 w' → HeldM w1 (w'.alloc o) := fun w' o h => Below.alloc (h : Below w1.heap.size w1 w') h.size o
    match vs, hvl with
    | [], _ =>
    have HP : Aside0 (∀ w', HeldM w1 w' → ∀ A c vs, Kd.C kValM w' A vs.length vs → vs.length ≤ 1000 → Calls Tryd.prog 58 #[.pointer (some ⟨R, 0, none⟩), .slice A vs.length c] w' fun e w'' => e = .returned (.int .i64 (pushP (popS s 1) vs).1) ∧ VmR W0 R pV key fuel (pushP (popS s 1) vs).2 w'' ∧ (True)) := ⟨fun w' hb A c vs hC hl => by
      have hb' : Below w1.heap.size w1 w' := hb
      refine (push W0 R pV key fuel (popS s 1) w' (hV.below hb') A c vs hC ⟨by have := (HSO.out.pop 1).sl; omega, hl⟩).mono ?_
      rintro e w'' ⟨rfl, h2, h3⟩
      obtain ⟨v7, hv7⟩ := hc7
      exact ⟨rfl, h2, trivial⟩⟩
    have HK : Aside0 (∀ w', HeldM w1 w' → True) := ⟨fun w' hb => trivial⟩
    have HVW := Aside0.mk hV
    have hu := Tryd.underlying23
    clear hV hF hC hvo hch hg hi1 hfi hc7
    go_wp2_with fail
    refine (valInt a w1).mono ?_
    rintro e w2 ⟨rfl, hb2⟩
    have HB2 := Aside0.mk (show HeldM w1 w2 from hb2)
    clear hb2
    go_wp2_with fail
    refine (HP.out _ (hhl _ _ HB2.out) _ _ [intV a] (lit_vals w2 _ _ _ rfl (by simp)) (by simp)).mono ?_
    rintro e w3 ⟨rfl, hV2, _⟩
    go_wp2_with fail
    go_ret
    exact ⟨by rw [HF.out]; rfl, by rw [HF.out]; exact hV2⟩

set_option maxHeartbeats 3200000 in
theorem does_2 (W0 : World) (hE : Env W0) (R : Nat) (pV : Value) (key : ByteArray) (fuel : Int) (s : St) (w : World) (h : VmR W0 R pV key fuel s w) (hs : SOk s) (a : Int) (sb : ByteArray) :
    Calls Tryd.prog 47 #[.pointer (some ⟨R, 0, none⟩), .agg #[.int .i64 2, .int .i64 a, .string sb]] w fun e w' => e = .returned (.int .i64 (doesF key s 2 a sb).1) ∧ VmR W0 R pV key fuel (doesF key s 2 a sb).2 w' := by
  obtain ⟨gi, hgi⟩ : ∃ g, g = w.heap.size := ⟨_, rfl⟩
  obtain ⟨wA, hwA⟩ : ∃ w', w' = w.alloc (.cells #[.int .i64 2, .int .i64 a, .string sb] 51) := ⟨_, rfl⟩
  have hbA := (Below.refl w.heap.size w).alloc (Nat.le_refl _) (.cells #[.int .i64 2, .int .i64 a, .string sb] 51)
  rw [← hwA] at hbA
  have hiA : wA.heap[gi]? = some (.cells ([.int .i64 2, .int .i64 a, .string sb] : List Value).toArray 51 (0, 0)) := by rw [hwA, hgi]; exact alloc_at w _
  have hiR : gi ≠ R := by
    obtain ⟨_, _, _, _, h'⟩ := h
    have := blk_lt' h'.blk
    omega
  have HT := Aside0.mk (taken W0 R pV key fuel s wA (h.below hbA) hs 2 (by decide) (by decide))
  have ci0 : wA.cell? ⟨gi, 0, none⟩ = some (.int .i64 2) := cell_of_blk hiA
  have HIA := Aside0.mk hiA
  have HWA := Aside0.mk hwA
  have HGI := Aside0.mk hgi
  have HE := Aside0.mk hE
  have HSO := Aside0.mk hs
  clear hbA hiA hwA hgi hE hs h
  go_enter Tryd.func47, Tryd.ntmps47
  go_upto_region 1 with (fail)
  rw [← HGI.out, ← HWA.out]
  go_wp2_with fail
  refine HT.out.mono ?_
  rintro e w1 (⟨why, hwhy, rfl, hV, hF⟩ | ⟨A, c, vs, rfl, hvl, hC, hvo, hV, hch, hg, hF⟩)
  · have HV := Aside0.mk hV
    have HF := Aside0.mk (hF a sb)
    clear hV hF
    rcases hwhy with rfl | rfl
    all_goals
      go_wp2_with fail
      go_ret
      exact ⟨by rw [HF.out]; rfl, by rw [HF.out]; exact HV.out⟩
  · rw [show (kindL 2).length = 0 from rfl]
    have hi1 := hch.blk HIA.out hiR
    have ci0 : w1.cell? ⟨gi, 0, none⟩ = some (.int .i64 2) := cell_of_blk hi1
    have ci1 : w1.cell? ⟨gi, 1, none⟩ = some (.int .i64 a) := cell_of_blk hi1
    have ci2 : w1.cell? ⟨gi, 2, none⟩ = some (.string sb) := cell_of_blk hi1
    have HV := Aside0.mk hV
    have HF := Aside0.mk (hF a sb)
    have hfi : Free w1 R gi := ⟨hiR, fun v hv e => by
      obtain ⟨sV, _, _, _, h'⟩ := hV
      rw [h'.cell 7] at hv
      injection hv with hv
      subst hv
      obtain ⟨cs, h2⟩ := own_blkM h'.stk e
      exact blk_neM h2 hi1 (by decide) rfl⟩
    have hc7 : ∃ v, w1.cell? ⟨R, 7, none⟩ = some v := by obtain ⟨_, _, _, _, h'⟩ := hV; exact ⟨_, h'.cell 7⟩
    have hh0 : HeldM w1 w1.drew := HeldM.drew _
    have hhd : ∀ o, HeldM w1 (w1.alloc o).drew := fun o => below_drew1 ((Below.refl _ _).alloc (Nat.le_refl _) o)
    have hhl : ∀ w' o, HeldM w1 w' → HeldM w1 (w'.alloc o) := fun w' o h => Below.alloc (h : Below w1.heap.size w1 w') h.size o
    match vs, hvl with
    | [], _ =>
    have HP : Aside0 (∀ w', HeldM w1 w' → ∀ A c vs, Kd.C kValM w' A vs.length vs → vs.length ≤ 1000 → Calls Tryd.prog 58 #[.pointer (some ⟨R, 0, none⟩), .slice A vs.length c] w' fun e w'' => e = .returned (.int .i64 (pushP (popS s 2) vs).1) ∧ VmR W0 R pV key fuel (pushP (popS s 2) vs).2 w'' ∧ (True)) := ⟨fun w' hb A c vs hC hl => by
      have hb' : Below w1.heap.size w1 w' := hb
      refine (push W0 R pV key fuel (popS s 2) w' (hV.below hb') A c vs hC ⟨by have := (HSO.out.pop 2).sl; omega, hl⟩).mono ?_
      rintro e w'' ⟨rfl, h2, h3⟩
      obtain ⟨v7, hv7⟩ := hc7
      exact ⟨rfl, h2, trivial⟩⟩
    have HK : Aside0 (∀ w', HeldM w1 w' → True) := ⟨fun w' hb => trivial⟩
    have HVW := Aside0.mk hV
    have hu := Tryd.underlying23
    clear hV hF hC hvo hch hg hi1 hfi hc7
    go_wp2_with fail
    refine (valBytes sb w1).mono ?_
    rintro e w2 ⟨rfl, hb2⟩
    have HB2 := Aside0.mk (show HeldM w1 w2 from hb2)
    clear hb2
    go_wp2_with fail
    refine (HP.out _ (hhl _ _ HB2.out) _ _ [txtV sb] (lit_vals w2 _ _ _ rfl (by simp)) (by simp)).mono ?_
    rintro e w3 ⟨rfl, hV2, _⟩
    go_wp2_with fail
    go_ret
    exact ⟨by rw [HF.out]; rfl, by rw [HF.out]; exact hV2⟩

set_option maxHeartbeats 3200000 in
theorem does_3 (W0 : World) (hE : Env W0) (R : Nat) (pV : Value) (key : ByteArray) (fuel : Int) (s : St) (w : World) (h : VmR W0 R pV key fuel s w) (hs : SOk s) (a : Int) (sb : ByteArray) :
    Calls Tryd.prog 47 #[.pointer (some ⟨R, 0, none⟩), .agg #[.int .i64 3, .int .i64 a, .string sb]] w fun e w' => e = .returned (.int .i64 (doesF key s 3 a sb).1) ∧ VmR W0 R pV key fuel (doesF key s 3 a sb).2 w' := by
  obtain ⟨gi, hgi⟩ : ∃ g, g = w.heap.size := ⟨_, rfl⟩
  obtain ⟨wA, hwA⟩ : ∃ w', w' = w.alloc (.cells #[.int .i64 3, .int .i64 a, .string sb] 51) := ⟨_, rfl⟩
  have hbA := (Below.refl w.heap.size w).alloc (Nat.le_refl _) (.cells #[.int .i64 3, .int .i64 a, .string sb] 51)
  rw [← hwA] at hbA
  have hiA : wA.heap[gi]? = some (.cells ([.int .i64 3, .int .i64 a, .string sb] : List Value).toArray 51 (0, 0)) := by rw [hwA, hgi]; exact alloc_at w _
  have hiR : gi ≠ R := by
    obtain ⟨_, _, _, _, h'⟩ := h
    have := blk_lt' h'.blk
    omega
  have HT := Aside0.mk (taken W0 R pV key fuel s wA (h.below hbA) hs 3 (by decide) (by decide))
  have ci0 : wA.cell? ⟨gi, 0, none⟩ = some (.int .i64 3) := cell_of_blk hiA
  have HIA := Aside0.mk hiA
  have HWA := Aside0.mk hwA
  have HGI := Aside0.mk hgi
  have HE := Aside0.mk hE
  have HSO := Aside0.mk hs
  clear hbA hiA hwA hgi hE hs h
  go_enter Tryd.func47, Tryd.ntmps47
  go_upto_region 1 with (fail)
  rw [← HGI.out, ← HWA.out]
  go_wp2_with fail
  refine HT.out.mono ?_
  rintro e w1 (⟨why, hwhy, rfl, hV, hF⟩ | ⟨A, c, vs, rfl, hvl, hC, hvo, hV, hch, hg, hF⟩)
  · have HV := Aside0.mk hV
    have HF := Aside0.mk (hF a sb)
    clear hV hF
    rcases hwhy with rfl | rfl
    all_goals
      go_wp2_with fail
      go_ret
      exact ⟨by rw [HF.out]; rfl, by rw [HF.out]; exact HV.out⟩
  · rw [show (kindL 3).length = 1 from rfl]
    have hi1 := hch.blk HIA.out hiR
    have ci0 : w1.cell? ⟨gi, 0, none⟩ = some (.int .i64 3) := cell_of_blk hi1
    have ci1 : w1.cell? ⟨gi, 1, none⟩ = some (.int .i64 a) := cell_of_blk hi1
    have ci2 : w1.cell? ⟨gi, 2, none⟩ = some (.string sb) := cell_of_blk hi1
    have HV := Aside0.mk hV
    have HF := Aside0.mk (hF a sb)
    have hfi : Free w1 R gi := ⟨hiR, fun v hv e => by
      obtain ⟨sV, _, _, _, h'⟩ := hV
      rw [h'.cell 7] at hv
      injection hv with hv
      subst hv
      obtain ⟨cs, h2⟩ := own_blkM h'.stk e
      exact blk_neM h2 hi1 (by decide) rfl⟩
    have hc7 : ∃ v, w1.cell? ⟨R, 7, none⟩ = some v := by obtain ⟨_, _, _, _, h'⟩ := hV; exact ⟨_, h'.cell 7⟩
    have hh0 : HeldM w1 w1.drew := HeldM.drew _
    have hhd : ∀ o, HeldM w1 (w1.alloc o).drew := fun o => below_drew1 ((Below.refl _ _).alloc (Nat.le_refl _) o)
    have hhl : ∀ w' o, HeldM w1 w' → HeldM w1 (w'.alloc o) := fun w' o h => Below.alloc (h : Below w1.heap.size w1 w') h.size o
    match vs, hvl with
    | [v0], _ =>
    obtain ⟨g, arr, rfl, hgb, hgf⟩ := hg (by decide)
    have hk0 := val_cells hC 0 v0 rfl
    have g0 : w1.cell? ⟨g, 0, none⟩ = some (.bool v0.text) := hk0.1
    have g1 : w1.cell? ⟨g, 1, none⟩ = some (.int .i64 v0.int) := hk0.2.1
    have g2 : w1.cell? ⟨g, 2, none⟩ = some (.string v0.bytes) := hk0.2.2
    have HO0 := Aside0.mk (hvo v0 (by simp))
    obtain ⟨t0, i0, b0⟩ := v0
    simp only at g0 g1 g2
    have hsz0 : b0.size ≤ 64 := HO0.out.b
    have HSG : Aside0 (∀ w' : World, w'.heap[g]? = w1.heap[g]? → w'.cell? ⟨g, 0, none⟩ = some (.bool t0) ∧ w'.cell? ⟨g, 1, none⟩ = some (.int .i64 i0) ∧ w'.cell? ⟨g, 2, none⟩ = some (.string b0)) := ⟨fun w' hw => ⟨(World.cell?_of_block hw).trans g0, (World.cell?_of_block hw).trans g1, (World.cell?_of_block hw).trans g2⟩⟩
    have HP : Aside0 (∀ w', HeldM w1 w' → ∀ A c vs, Kd.C kValM w' A vs.length vs → vs.length ≤ 1000 → Calls Tryd.prog 58 #[.pointer (some ⟨R, 0, none⟩), .slice A vs.length c] w' fun e w'' => e = .returned (.int .i64 (pushP (popS s 3) vs).1) ∧ VmR W0 R pV key fuel (pushP (popS s 3) vs).2 w'' ∧ (w''.cell? ⟨g, 0, none⟩ = some (.bool t0) ∧ w''.cell? ⟨g, 1, none⟩ = some (.int .i64 i0) ∧ w''.cell? ⟨g, 2, none⟩ = some (.string b0))) := ⟨fun w' hb A c vs hC hl => by
      have hb' : Below w1.heap.size w1 w' := hb
      refine (push W0 R pV key fuel (popS s 3) w' (hV.below hb') A c vs hC ⟨by have := (HSO.out.pop 3).sl; omega, hl⟩).mono ?_
      rintro e w'' ⟨rfl, h2, h3⟩
      obtain ⟨v7, hv7⟩ := hc7
      exact ⟨rfl, h2, HSG.out _ ((h3 g _ ((hb'.block g (blk_lt' hgb)).trans hgb) (hgf.below hv7 hb')).trans hgb.symm)⟩⟩
    have HK : Aside0 (∀ w', HeldM w1 w' → w'.cell? ⟨g, 0, none⟩ = some (.bool t0) ∧ w'.cell? ⟨g, 1, none⟩ = some (.int .i64 i0) ∧ w'.cell? ⟨g, 2, none⟩ = some (.string b0)) := ⟨fun w' hb => HSG.out _ ((show Below w1.heap.size w1 w' from hb).block g (blk_lt' hgb))⟩
    have HVW := Aside0.mk hV
    have hu := Tryd.underlying23
    clear hV hF hC hvo hch hg hi1 hfi hc7 hgb hgf hk0
    go_wp2_with fail
    go_region_held3 (fun w' => w'.cell? ⟨g, 0, none⟩ = some (.bool t0) ∧ w'.cell? ⟨g, 1, none⟩ = some (.int .i64 i0) ∧ w'.cell? ⟨g, 2, none⟩ = some (.string b0)) (first | assumption | exact HK.out _ (by first | assumption | exact hhd _ | exact hhl _ _ (by assumption)))
     (first
      | (go_at_call 58; ((refine (HP.out _ (hhd _) _ _ [⟨t0, i0, b0⟩, ⟨t0, i0, b0⟩] (lit_vals w1.drew _ _ _ rfl (by simp)) (by simp)).mono ?_); rintro e wz ⟨rfl, hV2, hSz⟩)))
    go_wp2_with fail
    go_ret
    exact ⟨by rw [HF.out]; rfl, by rw [HF.out]; exact hV2⟩

set_option maxHeartbeats 3200000 in
theorem does_4 (W0 : World) (hE : Env W0) (R : Nat) (pV : Value) (key : ByteArray) (fuel : Int) (s : St) (w : World) (h : VmR W0 R pV key fuel s w) (hs : SOk s) (a : Int) (sb : ByteArray) :
    Calls Tryd.prog 47 #[.pointer (some ⟨R, 0, none⟩), .agg #[.int .i64 4, .int .i64 a, .string sb]] w fun e w' => e = .returned (.int .i64 (doesF key s 4 a sb).1) ∧ VmR W0 R pV key fuel (doesF key s 4 a sb).2 w' := by
  obtain ⟨gi, hgi⟩ : ∃ g, g = w.heap.size := ⟨_, rfl⟩
  obtain ⟨wA, hwA⟩ : ∃ w', w' = w.alloc (.cells #[.int .i64 4, .int .i64 a, .string sb] 51) := ⟨_, rfl⟩
  have hbA := (Below.refl w.heap.size w).alloc (Nat.le_refl _) (.cells #[.int .i64 4, .int .i64 a, .string sb] 51)
  rw [← hwA] at hbA
  have hiA : wA.heap[gi]? = some (.cells ([.int .i64 4, .int .i64 a, .string sb] : List Value).toArray 51 (0, 0)) := by rw [hwA, hgi]; exact alloc_at w _
  have hiR : gi ≠ R := by
    obtain ⟨_, _, _, _, h'⟩ := h
    have := blk_lt' h'.blk
    omega
  have HT := Aside0.mk (taken W0 R pV key fuel s wA (h.below hbA) hs 4 (by decide) (by decide))
  have ci0 : wA.cell? ⟨gi, 0, none⟩ = some (.int .i64 4) := cell_of_blk hiA
  have HIA := Aside0.mk hiA
  have HWA := Aside0.mk hwA
  have HGI := Aside0.mk hgi
  have HE := Aside0.mk hE
  have HSO := Aside0.mk hs
  clear hbA hiA hwA hgi hE hs h
  go_enter Tryd.func47, Tryd.ntmps47
  go_upto_region 1 with (fail)
  rw [← HGI.out, ← HWA.out]
  go_wp2_with fail
  refine HT.out.mono ?_
  rintro e w1 (⟨why, hwhy, rfl, hV, hF⟩ | ⟨A, c, vs, rfl, hvl, hC, hvo, hV, hch, hg, hF⟩)
  · have HV := Aside0.mk hV
    have HF := Aside0.mk (hF a sb)
    clear hV hF
    rcases hwhy with rfl | rfl
    all_goals
      go_wp2_with fail
      go_ret
      exact ⟨by rw [HF.out]; rfl, by rw [HF.out]; exact HV.out⟩
  · rw [show (kindL 4).length = 1 from rfl]
    have hi1 := hch.blk HIA.out hiR
    have ci0 : w1.cell? ⟨gi, 0, none⟩ = some (.int .i64 4) := cell_of_blk hi1
    have ci1 : w1.cell? ⟨gi, 1, none⟩ = some (.int .i64 a) := cell_of_blk hi1
    have ci2 : w1.cell? ⟨gi, 2, none⟩ = some (.string sb) := cell_of_blk hi1
    have HV := Aside0.mk hV
    have HF := Aside0.mk (hF a sb)
    have hfi : Free w1 R gi := ⟨hiR, fun v hv e => by
      obtain ⟨sV, _, _, _, h'⟩ := hV
      rw [h'.cell 7] at hv
      injection hv with hv
      subst hv
      obtain ⟨cs, h2⟩ := own_blkM h'.stk e
      exact blk_neM h2 hi1 (by decide) rfl⟩
    have hc7 : ∃ v, w1.cell? ⟨R, 7, none⟩ = some v := by obtain ⟨_, _, _, _, h'⟩ := hV; exact ⟨_, h'.cell 7⟩
    have hh0 : HeldM w1 w1.drew := HeldM.drew _
    have hhd : ∀ o, HeldM w1 (w1.alloc o).drew := fun o => below_drew1 ((Below.refl _ _).alloc (Nat.le_refl _) o)
    have hhl : ∀ w' o, HeldM w1 w' → HeldM w1 (w'.alloc o) := fun w' o h => Below.alloc (h : Below w1.heap.size w1 w') h.size o
    match vs, hvl with
    | [v0], _ =>
    obtain ⟨g, arr, rfl, hgb, hgf⟩ := hg (by decide)
    have hk0 := val_cells hC 0 v0 rfl
    have g0 : w1.cell? ⟨g, 0, none⟩ = some (.bool v0.text) := hk0.1
    have g1 : w1.cell? ⟨g, 1, none⟩ = some (.int .i64 v0.int) := hk0.2.1
    have g2 : w1.cell? ⟨g, 2, none⟩ = some (.string v0.bytes) := hk0.2.2
    have HO0 := Aside0.mk (hvo v0 (by simp))
    obtain ⟨t0, i0, b0⟩ := v0
    simp only at g0 g1 g2
    have hsz0 : b0.size ≤ 64 := HO0.out.b
    have HSG : Aside0 (∀ w' : World, w'.heap[g]? = w1.heap[g]? → w'.cell? ⟨g, 0, none⟩ = some (.bool t0) ∧ w'.cell? ⟨g, 1, none⟩ = some (.int .i64 i0) ∧ w'.cell? ⟨g, 2, none⟩ = some (.string b0)) := ⟨fun w' hw => ⟨(World.cell?_of_block hw).trans g0, (World.cell?_of_block hw).trans g1, (World.cell?_of_block hw).trans g2⟩⟩
    have HP : Aside0 (∀ w', HeldM w1 w' → ∀ A c vs, Kd.C kValM w' A vs.length vs → vs.length ≤ 1000 → Calls Tryd.prog 58 #[.pointer (some ⟨R, 0, none⟩), .slice A vs.length c] w' fun e w'' => e = .returned (.int .i64 (pushP (popS s 4) vs).1) ∧ VmR W0 R pV key fuel (pushP (popS s 4) vs).2 w'' ∧ (w''.cell? ⟨g, 0, none⟩ = some (.bool t0) ∧ w''.cell? ⟨g, 1, none⟩ = some (.int .i64 i0) ∧ w''.cell? ⟨g, 2, none⟩ = some (.string b0))) := ⟨fun w' hb A c vs hC hl => by
      have hb' : Below w1.heap.size w1 w' := hb
      refine (push W0 R pV key fuel (popS s 4) w' (hV.below hb') A c vs hC ⟨by have := (HSO.out.pop 4).sl; omega, hl⟩).mono ?_
      rintro e w'' ⟨rfl, h2, h3⟩
      obtain ⟨v7, hv7⟩ := hc7
      exact ⟨rfl, h2, HSG.out _ ((h3 g _ ((hb'.block g (blk_lt' hgb)).trans hgb) (hgf.below hv7 hb')).trans hgb.symm)⟩⟩
    have HK : Aside0 (∀ w', HeldM w1 w' → w'.cell? ⟨g, 0, none⟩ = some (.bool t0) ∧ w'.cell? ⟨g, 1, none⟩ = some (.int .i64 i0) ∧ w'.cell? ⟨g, 2, none⟩ = some (.string b0)) := ⟨fun w' hb => HSG.out _ ((show Below w1.heap.size w1 w' from hb).block g (blk_lt' hgb))⟩
    have HVW := Aside0.mk hV
    have hu := Tryd.underlying23
    clear hV hF hC hvo hch hg hi1 hfi hc7 hgb hgf hk0
    go_wp2_with fail
    go_ret
    exact ⟨by rw [HF.out]; rfl, by rw [HF.out]; exact HVW.out⟩
end Go.Proofs.YthdinhgadefgaaaDoor.K
