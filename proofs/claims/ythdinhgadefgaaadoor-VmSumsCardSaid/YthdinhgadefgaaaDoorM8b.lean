/- The machine: instructions. -/
import Derived.Test.YthdinhgadefgaaaDoorM7
import Derived.Deep.RegionHeldLaw
set_option linter.unusedVariables false
set_option linter.unusedSimpArgs false
set_option maxRecDepth 100000
namespace Go.Proofs.YthdinhgadefgaaaDoor.K
open Go.RowKit Go.Proofs.YthdinhgadefgaaaDoorW.PrintWords Go.Proofs.YthdinhgadefgaaaDoorW.PrintLast Go.Proofs.YthdinhgadefgaaaDoorW.PrintMore Go.Proofs.YthdinhgadefgaaaDoor.U Go.Proofs.YthdinhgadefgaaaDoor.T Go.Proofs.YthdinhgadefgaaaDoor.V
set_option maxHeartbeats 3200000 in
theorem does_5 (W0 : World) (hE : Env W0) (R : Nat) (pV : Value) (key : ByteArray) (fuel : Int) (s : St) (w : World) (h : VmR W0 R pV key fuel s w) (hs : SOk s) (a : Int) (sb : ByteArray) :
    Calls Tryd.prog 47 #[.pointer (some ⟨R, 0, none⟩), .agg #[.int .i64 5, .int .i64 a, .string sb]] w fun e w' => e = .returned (.int .i64 (doesF key s 5 a sb).1) ∧ VmR W0 R pV key fuel (doesF key s 5 a sb).2 w' := by
  obtain ⟨gi, hgi⟩ : ∃ g, g = w.heap.size := ⟨_, rfl⟩
  obtain ⟨wA, hwA⟩ : ∃ w', w' = w.alloc (.cells #[.int .i64 5, .int .i64 a, .string sb] 51) := ⟨_, rfl⟩
  have hbA := (Below.refl w.heap.size w).alloc (Nat.le_refl _) (.cells #[.int .i64 5, .int .i64 a, .string sb] 51)
  rw [← hwA] at hbA
  have hiA : wA.heap[gi]? = some (.cells ([.int .i64 5, .int .i64 a, .string sb] : List Value).toArray 51 (0, 0)) := by rw [hwA, hgi]; exact alloc_at w _
  have hiR : gi ≠ R := by
    obtain ⟨_, _, _, _, h'⟩ := h
    have := blk_lt' h'.blk
    omega
  have HT := Aside0.mk (taken W0 R pV key fuel s wA (h.below hbA) hs 5 (by decide) (by decide))
  have ci0 : wA.cell? ⟨gi, 0, none⟩ = some (.int .i64 5) := cell_of_blk hiA
  have HIA := Aside0.mk hiA
  have HWA := Aside0.mk hwA
  have HGI := Aside0.mk hgi
  have HE := Aside0.mk hE
  have HSO := Aside0.mk hs
  clear hbA hiA hwA hgi hE hs h
  go_enter Tryd.func47, Tryd.ntmps47
  go_upto_region 1 with (fail)
  rw [← HGI.out, ← HWA.out]
  go_wp2_with fail
  refine HT.out.mono ?_
  rintro e w1 (⟨why, hwhy, rfl, hV, hF⟩ | ⟨A, c, vs, rfl, hvl, hC, hvo, hV, hch, hg, hF⟩)
  · have HV := Aside0.mk hV
    have HF := Aside0.mk (hF a sb)
    clear hV hF
    rcases hwhy with rfl | rfl
    all_goals
      go_wp2_with fail
      go_ret
      exact ⟨by rw [HF.out]; rfl, by rw [HF.out]; exact HV.out⟩
  · rw [show (kindL 5).length = 2 from rfl]
    have hi1 := hch.blk HIA.out hiR
    have ci0 : w1.cell? ⟨gi, 0, none⟩ = some (.int .i64 5) := cell_of_blk hi1
    have ci1 : w1.cell? ⟨gi, 1, none⟩ = some (.int .i64 a) := cell_of_blk hi1
    have ci2 : w1.cell? ⟨gi, 2, none⟩ = some (.string sb) := cell_of_blk hi1
    have HV := Aside0.mk hV
    have HF := Aside0.mk (hF a sb)
    have hfi : Free w1 R gi := ⟨hiR, fun v hv e => by
      obtain ⟨sV, _, _, _, h'⟩ := hV
      rw [h'.cell 7] at hv
      injection hv with hv
      subst hv
      obtain ⟨cs, h2⟩ := own_blkM h'.stk e
      exact blk_neM h2 hi1 (by decide) rfl⟩
    have hc7 : ∃ v, w1.cell? ⟨R, 7, none⟩ = some v := by obtain ⟨_, _, _, _, h'⟩ := hV; exact ⟨_, h'.cell 7⟩
    have hh0 : HeldM w1 w1.drew := HeldM.drew _
    have hhd : ∀ o, HeldM w1 (w1.alloc o).drew := fun o => below_drew1 ((Below.refl _ _).alloc (Nat.le_refl _) o)
    have hhl : ∀ w' o, HeldM w1 w' → HeldM w1 (w'.alloc o) := fun w' o h => Below.alloc (h : Below w1.heap.size w1 w') h.size o
    match vs, hvl with
    | [v0, v1], _ =>
    obtain ⟨g, arr, rfl, hgb, hgf⟩ := hg (by decide)
    have hk0 := val_cells hC 0 v0 rfl
    have g0 : w1.cell? ⟨g, 0, none⟩ = some (.bool v0.text) := hk0.1
    have g1 : w1.cell? ⟨g, 1, none⟩ = some (.int .i64 v0.int) := hk0.2.1
    have g2 : w1.cell? ⟨g, 2, none⟩ = some (.string v0.bytes) := hk0.2.2
    have HO0 := Aside0.mk (hvo v0 (by simp))
    obtain ⟨t0, i0, b0⟩ := v0
    simp only at g0 g1 g2
    have hsz0 : b0.size ≤ 64 := HO0.out.b
    have hk1 := val_cells hC 1 v1 rfl
    have g3 : w1.cell? ⟨g, 3, none⟩ = some (.bool v1.text) := hk1.1
    have g4 : w1.cell? ⟨g, 4, none⟩ = some (.int .i64 v1.int) := hk1.2.1
    have g5 : w1.cell? ⟨g, 5, none⟩ = some (.string v1.bytes) := hk1.2.2
    have HO1 := Aside0.mk (hvo v1 (by simp))
    obtain ⟨t1, i1, b1⟩ := v1
    simp only at g3 g4 g5
    have hsz1 : b1.size ≤ 64 := HO1.out.b
    have HSG : Aside0 (∀ w' : World, w'.heap[g]? = w1.heap[g]? → w'.cell? ⟨g, 0, none⟩ = some (.bool t0) ∧ w'.cell? ⟨g, 1, none⟩ = some (.int .i64 i0) ∧ w'.cell? ⟨g, 2, none⟩ = some (.string b0) ∧ w'.cell? ⟨g, 3, none⟩ = some (.bool t1) ∧ w'.cell? ⟨g, 4, none⟩ = some (.int .i64 i1) ∧ w'.cell? ⟨g, 5, none⟩ = some (.string b1)) := ⟨fun w' hw => ⟨(World.cell?_of_block hw).trans g0, (World.cell?_of_block hw).trans g1, (World.cell?_of_block hw).trans g2, (World.cell?_of_block hw).trans g3, (World.cell?_of_block hw).trans g4, (World.cell?_of_block hw).trans g5⟩⟩
    have HP : Aside0 (∀ w', HeldM w1 w' → ∀ A c vs, Kd.C kValM w' A vs.length vs → vs.length ≤ 1000 → Calls Tryd.prog 58 #[.pointer (some ⟨R, 0, none⟩), .slice A vs.length c] w' fun e w'' => e = .returned (.int .i64 (pushP (popS s 5) vs).1) ∧ VmR W0 R pV key fuel (pushP (popS s 5) vs).2 w'' ∧ (w''.cell? ⟨g, 0, none⟩ = some (.bool t0) ∧ w''.cell? ⟨g, 1, none⟩ = some (.int .i64 i0) ∧ w''.cell? ⟨g, 2, none⟩ = some (.string b0) ∧ w''.cell? ⟨g, 3, none⟩ = some (.bool t1) ∧ w''.cell? ⟨g, 4, none⟩ = some (.int .i64 i1) ∧ w''.cell? ⟨g, 5, none⟩ = some (.string b1))) := ⟨fun w' hb A c vs hC hl => by
      have hb' : Below w1.heap.size w1 w' := hb
      refine (push W0 R pV key fuel (popS s 5) w' (hV.below hb') A c vs hC ⟨by have := (HSO.out.pop 5).sl; omega, hl⟩).mono ?_
      rintro e w'' ⟨rfl, h2, h3⟩
      obtain ⟨v7, hv7⟩ := hc7
      exact ⟨rfl, h2, HSG.out _ ((h3 g _ ((hb'.block g (blk_lt' hgb)).trans hgb) (hgf.below hv7 hb')).trans hgb.symm)⟩⟩
    have HK : Aside0 (∀ w', HeldM w1 w' → w'.cell? ⟨g, 0, none⟩ = some (.bool t0) ∧ w'.cell? ⟨g, 1, none⟩ = some (.int .i64 i0) ∧ w'.cell? ⟨g, 2, none⟩ = some (.string b0) ∧ w'.cell? ⟨g, 3, none⟩ = some (.bool t1) ∧ w'.cell? ⟨g, 4, none⟩ = some (.int .i64 i1) ∧ w'.cell? ⟨g, 5, none⟩ = some (.string b1)) := ⟨fun w' hb => HSG.out _ ((show Below w1.heap.size w1 w' from hb).block g (blk_lt' hgb))⟩
    have HVW := Aside0.mk hV
    have hu := Tryd.underlying23
    clear hV hF hC hvo hch hg hi1 hfi hc7 hgb hgf hk0 hk1
    go_wp2_with fail
    go_region_held3 (fun w' => w'.cell? ⟨g, 0, none⟩ = some (.bool t0) ∧ w'.cell? ⟨g, 1, none⟩ = some (.int .i64 i0) ∧ w'.cell? ⟨g, 2, none⟩ = some (.string b0) ∧ w'.cell? ⟨g, 3, none⟩ = some (.bool t1) ∧ w'.cell? ⟨g, 4, none⟩ = some (.int .i64 i1) ∧ w'.cell? ⟨g, 5, none⟩ = some (.string b1)) (first | assumption | exact HK.out _ (by first | assumption | exact hhd _ | exact hhl _ _ (by assumption)))
     (first
      | (go_at_call 58; ((refine (HP.out _ (hhd _) _ _ [⟨t1, i1, b1⟩, ⟨t0, i0, b0⟩] (lit_vals w1.drew _ _ _ rfl (by simp)) (by simp)).mono ?_); rintro e wz ⟨rfl, hV2, hSz⟩)))
    go_wp2_with fail
    go_ret
    exact ⟨by rw [HF.out]; rfl, by rw [HF.out]; exact hV2⟩

set_option maxHeartbeats 3200000 in
theorem does_6 (W0 : World) (hE : Env W0) (R : Nat) (pV : Value) (key : ByteArray) (fuel : Int) (s : St) (w : World) (h : VmR W0 R pV key fuel s w) (hs : SOk s) (a : Int) (sb : ByteArray) :
    Calls Tryd.prog 47 #[.pointer (some ⟨R, 0, none⟩), .agg #[.int .i64 6, .int .i64 a, .string sb]] w fun e w' => e = .returned (.int .i64 (doesF key s 6 a sb).1) ∧ VmR W0 R pV key fuel (doesF key s 6 a sb).2 w' := by
  obtain ⟨gi, hgi⟩ : ∃ g, g = w.heap.size := ⟨_, rfl⟩
  obtain ⟨wA, hwA⟩ : ∃ w', w' = w.alloc (.cells #[.int .i64 6, .int .i64 a, .string sb] 51) := ⟨_, rfl⟩
  have hbA := (Below.refl w.heap.size w).alloc (Nat.le_refl _) (.cells #[.int .i64 6, .int .i64 a, .string sb] 51)
  rw [← hwA] at hbA
  have hiA : wA.heap[gi]? = some (.cells ([.int .i64 6, .int .i64 a, .string sb] : List Value).toArray 51 (0, 0)) := by rw [hwA, hgi]; exact alloc_at w _
  have hiR : gi ≠ R := by
    obtain ⟨_, _, _, _, h'⟩ := h
    have := blk_lt' h'.blk
    omega
  have HT := Aside0.mk (taken W0 R pV key fuel s wA (h.below hbA) hs 6 (by decide) (by decide))
  have ci0 : wA.cell? ⟨gi, 0, none⟩ = some (.int .i64 6) := cell_of_blk hiA
  have HIA := Aside0.mk hiA
  have HWA := Aside0.mk hwA
  have HGI := Aside0.mk hgi
  have HE := Aside0.mk hE
  have HSO := Aside0.mk hs
  clear hbA hiA hwA hgi hE hs h
  go_enter Tryd.func47, Tryd.ntmps47
  go_upto_region 1 with (fail)
  rw [← HGI.out, ← HWA.out]
  go_wp2_with fail
  refine HT.out.mono ?_
  rintro e w1 (⟨why, hwhy, rfl, hV, hF⟩ | ⟨A, c, vs, rfl, hvl, hC, hvo, hV, hch, hg, hF⟩)
  · have HV := Aside0.mk hV
    have HF := Aside0.mk (hF a sb)
    clear hV hF
    rcases hwhy with rfl | rfl
    all_goals
      go_wp2_with fail
      go_ret
      exact ⟨by rw [HF.out]; rfl, by rw [HF.out]; exact HV.out⟩
  · rw [show (kindL 6).length = 0 from rfl]
    have hi1 := hch.blk HIA.out hiR
    have ci0 : w1.cell? ⟨gi, 0, none⟩ = some (.int .i64 6) := cell_of_blk hi1
    have ci1 : w1.cell? ⟨gi, 1, none⟩ = some (.int .i64 a) := cell_of_blk hi1
    have ci2 : w1.cell? ⟨gi, 2, none⟩ = some (.string sb) := cell_of_blk hi1
    have HV := Aside0.mk hV
    have HF := Aside0.mk (hF a sb)
    have hfi : Free w1 R gi := ⟨hiR, fun v hv e => by
      obtain ⟨sV, _, _, _, h'⟩ := hV
      rw [h'.cell 7] at hv
      injection hv with hv
      subst hv
      obtain ⟨cs, h2⟩ := own_blkM h'.stk e
      exact blk_neM h2 hi1 (by decide) rfl⟩
    have hc7 : ∃ v, w1.cell? ⟨R, 7, none⟩ = some v := by obtain ⟨_, _, _, _, h'⟩ := hV; exact ⟨_, h'.cell 7⟩
    have hh0 : HeldM w1 w1.drew := HeldM.drew _
    have hhd : ∀ o, HeldM w1 (w1.alloc o).drew := fun o => below_drew1 ((Below.refl _ _).alloc (Nat.le_refl _) o)
    have hhl : ∀ w' o, HeldM w1 w' → HeldM w1 (w'.alloc o) := fun w' o h => Below.alloc (h : Below w1.heap.size w1 w') h.size o
    match vs, hvl with
    | [], _ =>
    have HP : Aside0 (∀ w', HeldM w1 w' → ∀ A c vs, Kd.C kValM w' A vs.length vs → vs.length ≤ 1000 → Calls Tryd.prog 58 #[.pointer (some ⟨R, 0, none⟩), .slice A vs.length c] w' fun e w'' => e = .returned (.int .i64 (pushP (popS s 6) vs).1) ∧ VmR W0 R pV key fuel (pushP (popS s 6) vs).2 w'' ∧ (True)) := ⟨fun w' hb A c vs hC hl => by
      have hb' : Below w1.heap.size w1 w' := hb
      refine (push W0 R pV key fuel (popS s 6) w' (hV.below hb') A c vs hC ⟨by have := (HSO.out.pop 6).sl; omega, hl⟩).mono ?_
      rintro e w'' ⟨rfl, h2, h3⟩
      obtain ⟨v7, hv7⟩ := hc7
      exact ⟨rfl, h2, trivial⟩⟩
    have HK : Aside0 (∀ w', HeldM w1 w' → True) := ⟨fun w' hb => trivial⟩
    have HVW := Aside0.mk hV
    have hu := Tryd.underlying23
    obtain ⟨sV, tV, vV, m, hW⟩ := HVW.out
    have r1 : w1.cell? ⟨R, 1, none⟩ = some (.string key) := hW.cell 1
    clear hV hF hC hvo hch hg hi1 hfi hc7 hW
    go_wp2_with fail
    refine (valBytes key w1).mono ?_
    rintro e w2 ⟨rfl, hb2⟩
    have HB2 := Aside0.mk (show HeldM w1 w2 from hb2)
    clear hb2
    go_wp2_with fail
    refine (HP.out _ (hhl _ _ HB2.out) _ _ [txtV key] (lit_vals w2 _ _ _ rfl (by simp)) (by simp)).mono ?_
    rintro e w3 ⟨rfl, hV2, _⟩
    go_wp2_with fail
    go_ret
    exact ⟨by rw [HF.out]; rfl, by rw [HF.out]; exact hV2⟩

set_option maxHeartbeats 3200000 in
theorem does_7 (W0 : World) (hE : Env W0) (R : Nat) (pV : Value) (key : ByteArray) (fuel : Int) (s : St) (w : World) (h : VmR W0 R pV key fuel s w) (hs : SOk s) (a : Int) (sb : ByteArray) :
    Calls Tryd.prog 47 #[.pointer (some ⟨R, 0, none⟩), .agg #[.int .i64 7, .int .i64 a, .string sb]] w fun e w' => e = .returned (.int .i64 (doesF key s 7 a sb).1) ∧ VmR W0 R pV key fuel (doesF key s 7 a sb).2 w' := by
  obtain ⟨gi, hgi⟩ : ∃ g, g = w.heap.size := ⟨_, rfl⟩
  obtain ⟨wA, hwA⟩ : ∃ w', w' = w.alloc (.cells #[.int .i64 7, .int .i64 a, .string sb] 51) := ⟨_, rfl⟩
  have hbA := (Below.refl w.heap.size w).alloc (Nat.le_refl _) (.cells #[.int .i64 7, .int .i64 a, .string sb] 51)
  rw [← hwA] at hbA
  have hiA : wA.heap[gi]? = some (.cells ([.int .i64 7, .int .i64 a, .string sb] : List Value).toArray 51 (0, 0)) := by rw [hwA, hgi]; exact alloc_at w _
  have hiR : gi ≠ R := by
    obtain ⟨_, _, _, _, h'⟩ := h
    have := blk_lt' h'.blk
    omega
  have HT := Aside0.mk (taken W0 R pV key fuel s wA (h.below hbA) hs 7 (by decide) (by decide))
  have ci0 : wA.cell? ⟨gi, 0, none⟩ = some (.int .i64 7) := cell_of_blk hiA
  have HIA := Aside0.mk hiA
  have HWA := Aside0.mk hwA
  have HGI := Aside0.mk hgi
  have HE := Aside0.mk hE
  have HSO := Aside0.mk hs
  clear hbA hiA hwA hgi hE hs h
  go_enter Tryd.func47, Tryd.ntmps47
  go_upto_region 1 with (fail)
  rw [← HGI.out, ← HWA.out]
  go_wp2_with fail
  refine HT.out.mono ?_
  rintro e w1 (⟨why, hwhy, rfl, hV, hF⟩ | ⟨A, c, vs, rfl, hvl, hC, hvo, hV, hch, hg, hF⟩)
  · have HV := Aside0.mk hV
    have HF := Aside0.mk (hF a sb)
    clear hV hF
    rcases hwhy with rfl | rfl
    all_goals
      go_wp2_with fail
      go_ret
      exact ⟨by rw [HF.out]; rfl, by rw [HF.out]; exact HV.out⟩
  · rw [show (kindL 7).length = 0 from rfl]
    have hi1 := hch.blk HIA.out hiR
    have ci0 : w1.cell? ⟨gi, 0, none⟩ = some (.int .i64 7) := cell_of_blk hi1
    have ci1 : w1.cell? ⟨gi, 1, none⟩ = some (.int .i64 a) := cell_of_blk hi1
    have ci2 : w1.cell? ⟨gi, 2, none⟩ = some (.string sb) := cell_of_blk hi1
    have HV := Aside0.mk hV
    have HF := Aside0.mk (hF a sb)
    have hfi : Free w1 R gi := ⟨hiR, fun v hv e => by
      obtain ⟨sV, _, _, _, h'⟩ := hV
      rw [h'.cell 7] at hv
      injection hv with hv
      subst hv
      obtain ⟨cs, h2⟩ := own_blkM h'.stk e
      exact blk_neM h2 hi1 (by decide) rfl⟩
    have hc7 : ∃ v, w1.cell? ⟨R, 7, none⟩ = some v := by obtain ⟨_, _, _, _, h'⟩ := hV; exact ⟨_, h'.cell 7⟩
    have hh0 : HeldM w1 w1.drew := HeldM.drew _
    have hhd : ∀ o, HeldM w1 (w1.alloc o).drew := fun o => below_drew1 ((Below.refl _ _).alloc (Nat.le_refl _) o)
    have hhl : ∀ w' o, HeldM w1 w' → HeldM w1 (w'.alloc o) := fun w' o h => Below.alloc (h : Below w1.heap.size w1 w') h.size o
    match vs, hvl with
    | [], _ =>
    have HP : Aside0 (∀ w', HeldM w1 w' → ∀ A c vs, Kd.C kValM w' A vs.length vs → vs.length ≤ 1000 → Calls Tryd.prog 58 #[.pointer (some ⟨R, 0, none⟩), .slice A vs.length c] w' fun e w'' => e = .returned (.int .i64 (pushP (popS s 7) vs).1) ∧ VmR W0 R pV key fuel (pushP (popS s 7) vs).2 w'' ∧ (True)) := ⟨fun w' hb A c vs hC hl => by
      have hb' : Below w1.heap.size w1 w' := hb
      refine (push W0 R pV key fuel (popS s 7) w' (hV.below hb') A c vs hC ⟨by have := (HSO.out.pop 7).sl; omega, hl⟩).mono ?_
      rintro e w'' ⟨rfl, h2, h3⟩
      obtain ⟨v7, hv7⟩ := hc7
      exact ⟨rfl, h2, trivial⟩⟩
    have HK : Aside0 (∀ w', HeldM w1 w' → True) := ⟨fun w' hb => trivial⟩
    have HVW := Aside0.mk hV
    have hu := Tryd.underlying23
    clear hV hF hC hvo hch hg hi1 hfi hc7
    go_wp2_with fail
    refine (vmNext W0 R pV key fuel (popS s 7) w1 HVW.out (by have := (HSO.out.pop 7).sl; omega) (HSO.out.pop 7).vl).mono ?_
    rintro e w2 ⟨rfl, hV2⟩
    go_wp2_with fail
    go_ret
    exact ⟨by rw [HF.out]; rfl, by rw [HF.out]; exact hV2⟩

set_option maxHeartbeats 3200000 in
theorem does_14 (W0 : World) (hE : Env W0) (R : Nat) (pV : Value) (key : ByteArray) (fuel : Int) (s : St) (w : World) (h : VmR W0 R pV key fuel s w) (hs : SOk s) (a : Int) (sb : ByteArray) :
    Calls Tryd.prog 47 #[.pointer (some ⟨R, 0, none⟩), .agg #[.int .i64 14, .int .i64 a, .string sb]] w fun e w' => e = .returned (.int .i64 (doesF key s 14 a sb).1) ∧ VmR W0 R pV key fuel (doesF key s 14 a sb).2 w' := by
  obtain ⟨gi, hgi⟩ : ∃ g, g = w.heap.size := ⟨_, rfl⟩
  obtain ⟨wA, hwA⟩ : ∃ w', w' = w.alloc (.cells #[.int .i64 14, .int .i64 a, .string sb] 51) := ⟨_, rfl⟩
  have hbA := (Below.refl w.heap.size w).alloc (Nat.le_refl _) (.cells #[.int .i64 14, .int .i64 a, .string sb] 51)
  rw [← hwA] at hbA
  have hiA : wA.heap[gi]? = some (.cells ([.int .i64 14, .int .i64 a, .string sb] : List Value).toArray 51 (0, 0)) := by rw [hwA, hgi]; exact alloc_at w _
  have hiR : gi ≠ R := by
    obtain ⟨_, _, _, _, h'⟩ := h
    have := blk_lt' h'.blk
    omega
  have HT := Aside0.mk (taken W0 R pV key fuel s wA (h.below hbA) hs 14 (by decide) (by decide))
  have ci0 : wA.cell? ⟨gi, 0, none⟩ = some (.int .i64 14) := cell_of_blk hiA
  have HIA := Aside0.mk hiA
  have HWA := Aside0.mk hwA
  have HGI := Aside0.mk hgi
  have HE := Aside0.mk hE
  have HSO := Aside0.mk hs
  clear hbA hiA hwA hgi hE hs h
  go_enter Tryd.func47, Tryd.ntmps47
  go_upto_region 1 with (fail)
  rw [← HGI.out, ← HWA.out]
  go_wp2_with fail
  refine HT.out.mono ?_
  rintro e w1 (⟨why, hwhy, rfl, hV, hF⟩ | ⟨A, c, vs, rfl, hvl, hC, hvo, hV, hch, hg, hF⟩)
  · have HV := Aside0.mk hV
    have HF := Aside0.mk (hF a sb)
    clear hV hF
    rcases hwhy with rfl | rfl
    all_goals
      go_wp2_with fail
      go_ret
      exact ⟨by rw [HF.out]; rfl, by rw [HF.out]; exact HV.out⟩
  · rw [show (kindL 14).length = 1 from rfl]
    have hi1 := hch.blk HIA.out hiR
    have ci0 : w1.cell? ⟨gi, 0, none⟩ = some (.int .i64 14) := cell_of_blk hi1
    have ci1 : w1.cell? ⟨gi, 1, none⟩ = some (.int .i64 a) := cell_of_blk hi1
    have ci2 : w1.cell? ⟨gi, 2, none⟩ = some (.string sb) := cell_of_blk hi1
    have HV := Aside0.mk hV
    have HF := Aside0.mk (hF a sb)
    have hfi : Free w1 R gi := ⟨hiR, fun v hv e => by
      obtain ⟨sV, _, _, _, h'⟩ := hV
      rw [h'.cell 7] at hv
      injection hv with hv
      subst hv
      obtain ⟨cs, h2⟩ := own_blkM h'.stk e
      exact blk_neM h2 hi1 (by decide) rfl⟩
    have hc7 : ∃ v, w1.cell? ⟨R, 7, none⟩ = some v := by obtain ⟨_, _, _, _, h'⟩ := hV; exact ⟨_, h'.cell 7⟩
    have hh0 : HeldM w1 w1.drew := HeldM.drew _
    have hhd : ∀ o, HeldM w1 (w1.alloc o).drew := fun o => below_drew1 ((Below.refl _ _).alloc (Nat.le_refl _) o)
    have hhl : ∀ w' o, HeldM w1 w' → HeldM w1 (w'.alloc o) := fun w' o h => Below.alloc (h : Below w1.heap.size w1 w') h.size o
    match vs, hvl with
    | [v0], _ =>
    obtain ⟨g, arr, rfl, hgb, hgf⟩ := hg (by decide)
    have hk0 := val_cells hC 0 v0 rfl
    have g0 : w1.cell? ⟨g, 0, none⟩ = some (.bool v0.text) := hk0.1
    have g1 : w1.cell? ⟨g, 1, none⟩ = some (.int .i64 v0.int) := hk0.2.1
    have g2 : w1.cell? ⟨g, 2, none⟩ = some (.string v0.bytes) := hk0.2.2
    have HO0 := Aside0.mk (hvo v0 (by simp))
    obtain ⟨t0, i0, b0⟩ := v0
    simp only at g0 g1 g2
    have hsz0 : b0.size ≤ 64 := HO0.out.b
    have HSG : Aside0 (∀ w' : World, w'.heap[g]? = w1.heap[g]? → w'.cell? ⟨g, 0, none⟩ = some (.bool t0) ∧ w'.cell? ⟨g, 1, none⟩ = some (.int .i64 i0) ∧ w'.cell? ⟨g, 2, none⟩ = some (.string b0)) := ⟨fun w' hw => ⟨(World.cell?_of_block hw).trans g0, (World.cell?_of_block hw).trans g1, (World.cell?_of_block hw).trans g2⟩⟩
    have HP : Aside0 (∀ w', HeldM w1 w' → ∀ A c vs, Kd.C kValM w' A vs.length vs → vs.length ≤ 1000 → Calls Tryd.prog 58 #[.pointer (some ⟨R, 0, none⟩), .slice A vs.length c] w' fun e w'' => e = .returned (.int .i64 (pushP (popS s 14) vs).1) ∧ VmR W0 R pV key fuel (pushP (popS s 14) vs).2 w'' ∧ (w''.cell? ⟨g, 0, none⟩ = some (.bool t0) ∧ w''.cell? ⟨g, 1, none⟩ = some (.int .i64 i0) ∧ w''.cell? ⟨g, 2, none⟩ = some (.string b0))) := ⟨fun w' hb A c vs hC hl => by
      have hb' : Below w1.heap.size w1 w' := hb
      refine (push W0 R pV key fuel (popS s 14) w' (hV.below hb') A c vs hC ⟨by have := (HSO.out.pop 14).sl; omega, hl⟩).mono ?_
      rintro e w'' ⟨rfl, h2, h3⟩
      obtain ⟨v7, hv7⟩ := hc7
      exact ⟨rfl, h2, HSG.out _ ((h3 g _ ((hb'.block g (blk_lt' hgb)).trans hgb) (hgf.below hv7 hb')).trans hgb.symm)⟩⟩
    have HK : Aside0 (∀ w', HeldM w1 w' → w'.cell? ⟨g, 0, none⟩ = some (.bool t0) ∧ w'.cell? ⟨g, 1, none⟩ = some (.int .i64 i0) ∧ w'.cell? ⟨g, 2, none⟩ = some (.string b0)) := ⟨fun w' hb => HSG.out _ ((show Below w1.heap.size w1 w' from hb).block g (blk_lt' hgb))⟩
    have HVW := Aside0.mk hV
    have hu := Tryd.underlying23
    clear hV hF hC hvo hch hg hi1 hfi hc7 hgb hgf hk0
    go_wp2_with fail
    refine (valInt b0.size w1).mono ?_
    rintro e w2 ⟨rfl, hb2⟩
    have HB2 := Aside0.mk (show HeldM w1 w2 from hb2)
    clear hb2
    go_wp2_with fail
    refine (HP.out _ (hhl _ _ HB2.out) _ _ [intV b0.size] (lit_vals w2 _ _ _ rfl (by simp)) (by simp)).mono ?_
    rintro e w3 ⟨rfl, hV2, _⟩
    go_wp2_with fail
    go_ret
    exact ⟨by rw [HF.out]; rfl, by rw [HF.out]; exact hV2⟩

set_option maxHeartbeats 3200000 in
theorem does_17 (W0 : World) (hE : Env W0) (R : Nat) (pV : Value) (key : ByteArray) (fuel : Int) (s : St) (w : World) (h : VmR W0 R pV key fuel s w) (hs : SOk s) (a : Int) (sb : ByteArray) :
    Calls Tryd.prog 47 #[.pointer (some ⟨R, 0, none⟩), .agg #[.int .i64 17, .int .i64 a, .string sb]] w fun e w' => e = .returned (.int .i64 (doesF key s 17 a sb).1) ∧ VmR W0 R pV key fuel (doesF key s 17 a sb).2 w' := by
  obtain ⟨gi, hgi⟩ : ∃ g, g = w.heap.size := ⟨_, rfl⟩
  obtain ⟨wA, hwA⟩ : ∃ w', w' = w.alloc (.cells #[.int .i64 17, .int .i64 a, .string sb] 51) := ⟨_, rfl⟩
  have hbA := (Below.refl w.heap.size w).alloc (Nat.le_refl _) (.cells #[.int .i64 17, .int .i64 a, .string sb] 51)
  rw [← hwA] at hbA
  have hiA : wA.heap[gi]? = some (.cells ([.int .i64 17, .int .i64 a, .string sb] : List Value).toArray 51 (0, 0)) := by rw [hwA, hgi]; exact alloc_at w _
  have hiR : gi ≠ R := by
    obtain ⟨_, _, _, _, h'⟩ := h
    have := blk_lt' h'.blk
    omega
  have HT := Aside0.mk (taken W0 R pV key fuel s wA (h.below hbA) hs 17 (by decide) (by decide))
  have ci0 : wA.cell? ⟨gi, 0, none⟩ = some (.int .i64 17) := cell_of_blk hiA
  have HIA := Aside0.mk hiA
  have HWA := Aside0.mk hwA
  have HGI := Aside0.mk hgi
  have HE := Aside0.mk hE
  have HSO := Aside0.mk hs
  clear hbA hiA hwA hgi hE hs h
  go_enter Tryd.func47, Tryd.ntmps47
  go_upto_region 1 with (fail)
  rw [← HGI.out, ← HWA.out]
  go_wp2_with fail
  refine HT.out.mono ?_
  rintro e w1 (⟨why, hwhy, rfl, hV, hF⟩ | ⟨A, c, vs, rfl, hvl, hC, hvo, hV, hch, hg, hF⟩)
  · have HV := Aside0.mk hV
    have HF := Aside0.mk (hF a sb)
    clear hV hF
    rcases hwhy with rfl | rfl
    all_goals
      go_wp2_with fail
      go_ret
      exact ⟨by rw [HF.out]; rfl, by rw [HF.out]; exact HV.out⟩
  · rw [show (kindL 17).length = 1 from rfl]
    have hi1 := hch.blk HIA.out hiR
    have ci0 : w1.cell? ⟨gi, 0, none⟩ = some (.int .i64 17) := cell_of_blk hi1
    have ci1 : w1.cell? ⟨gi, 1, none⟩ = some (.int .i64 a) := cell_of_blk hi1
    have ci2 : w1.cell? ⟨gi, 2, none⟩ = some (.string sb) := cell_of_blk hi1
    have HV := Aside0.mk hV
    have HF := Aside0.mk (hF a sb)
    have hfi : Free w1 R gi := ⟨hiR, fun v hv e => by
      obtain ⟨sV, _, _, _, h'⟩ := hV
      rw [h'.cell 7] at hv
      injection hv with hv
      subst hv
      obtain ⟨cs, h2⟩ := own_blkM h'.stk e
      exact blk_neM h2 hi1 (by decide) rfl⟩
    have hc7 : ∃ v, w1.cell? ⟨R, 7, none⟩ = some v := by obtain ⟨_, _, _, _, h'⟩ := hV; exact ⟨_, h'.cell 7⟩
    have hh0 : HeldM w1 w1.drew := HeldM.drew _
    have hhd : ∀ o, HeldM w1 (w1.alloc o).drew := fun o => below_drew1 ((Below.refl _ _).alloc (Nat.le_refl _) o)
    have hhl : ∀ w' o, HeldM w1 w' → HeldM w1 (w'.alloc o) := fun w' o h => Below.alloc (h : Below w1.heap.size w1 w') h.size o
    match vs, hvl with
    | [v0], _ =>
    obtain ⟨g, arr, rfl, hgb, hgf⟩ := hg (by decide)
    have hk0 := val_cells hC 0 v0 rfl
    have g0 : w1.cell? ⟨g, 0, none⟩ = some (.bool v0.text) := hk0.1
    have g1 : w1.cell? ⟨g, 1, none⟩ = some (.int .i64 v0.int) := hk0.2.1
    have g2 : w1.cell? ⟨g, 2, none⟩ = some (.string v0.bytes) := hk0.2.2
    have HO0 := Aside0.mk (hvo v0 (by simp))
    obtain ⟨t0, i0, b0⟩ := v0
    simp only at g0 g1 g2
    have hsz0 : b0.size ≤ 64 := HO0.out.b
    have HSG : Aside0 (∀ w' : World, w'.heap[g]? = w1.heap[g]? → w'.cell? ⟨g, 0, none⟩ = some (.bool t0) ∧ w'.cell? ⟨g, 1, none⟩ = some (.int .i64 i0) ∧ w'.cell? ⟨g, 2, none⟩ = some (.string b0)) := ⟨fun w' hw => ⟨(World.cell?_of_block hw).trans g0, (World.cell?_of_block hw).trans g1, (World.cell?_of_block hw).trans g2⟩⟩
    have HP : Aside0 (∀ w', HeldM w1 w' → ∀ A c vs, Kd.C kValM w' A vs.length vs → vs.length ≤ 1000 → Calls Tryd.prog 58 #[.pointer (some ⟨R, 0, none⟩), .slice A vs.length c] w' fun e w'' => e = .returned (.int .i64 (pushP (popS s 17) vs).1) ∧ VmR W0 R pV key fuel (pushP (popS s 17) vs).2 w'' ∧ (w''.cell? ⟨g, 0, none⟩ = some (.bool t0) ∧ w''.cell? ⟨g, 1, none⟩ = some (.int .i64 i0) ∧ w''.cell? ⟨g, 2, none⟩ = some (.string b0))) := ⟨fun w' hb A c vs hC hl => by
      have hb' : Below w1.heap.size w1 w' := hb
      refine (push W0 R pV key fuel (popS s 17) w' (hV.below hb') A c vs hC ⟨by have := (HSO.out.pop 17).sl; omega, hl⟩).mono ?_
      rintro e w'' ⟨rfl, h2, h3⟩
      obtain ⟨v7, hv7⟩ := hc7
      exact ⟨rfl, h2, HSG.out _ ((h3 g _ ((hb'.block g (blk_lt' hgb)).trans hgb) (hgf.below hv7 hb')).trans hgb.symm)⟩⟩
    have HK : Aside0 (∀ w', HeldM w1 w' → w'.cell? ⟨g, 0, none⟩ = some (.bool t0) ∧ w'.cell? ⟨g, 1, none⟩ = some (.int .i64 i0) ∧ w'.cell? ⟨g, 2, none⟩ = some (.string b0)) := ⟨fun w' hb => HSG.out _ ((show Below w1.heap.size w1 w' from hb).block g (blk_lt' hgb))⟩
    have HVW := Aside0.mk hV
    have hu := Tryd.underlying23
    clear hV hF hC hvo hch hg hi1 hfi hc7 hgb hgf hk0
    go_wp2_with fail
    refine (vmTextR W0 HE.out R pV key fuel (popS s 17) w1 HVW.out i0 HO0.out.i).mono ?_
    rintro e w2 ⟨rfl, hv2⟩
    have HV3 := Aside0.mk hv2
    clear hv2
    go_wp2_with fail
    refine (valBytes (digB i0) w2).mono ?_
    rintro e w3 ⟨rfl, hb3⟩
    have HV4 := Aside0.mk (HV3.out.below hb3)
    clear hb3
    go_wp2_with fail
    refine (push W0 R pV key fuel (popS s 17) _ (HV4.out.below ((Below.refl w3.heap.size w3).alloc (Nat.le_refl _) _)) _ _ [txtV (digB i0)] (lit_vals w3 _ _ _ rfl (by simp)) ⟨by have := (HSO.out.pop 17).sl; omega, by simp⟩).mono ?_
    rintro e w4 ⟨rfl, hV2, _⟩
    go_wp2_with fail
    go_ret
    exact ⟨by rw [HF.out]; rfl, by rw [HF.out]; exact hV2⟩

set_option maxHeartbeats 3200000 in
theorem does_18 (W0 : World) (hE : Env W0) (R : Nat) (pV : Value) (key : ByteArray) (fuel : Int) (s : St) (w : World) (h : VmR W0 R pV key fuel s w) (hs : SOk s) (a : Int) (sb : ByteArray) :
    Calls Tryd.prog 47 #[.pointer (some ⟨R, 0, none⟩), .agg #[.int .i64 18, .int .i64 a, .string sb]] w fun e w' => e = .returned (.int .i64 (doesF key s 18 a sb).1) ∧ VmR W0 R pV key fuel (doesF key s 18 a sb).2 w' := by
  obtain ⟨gi, hgi⟩ : ∃ g, g = w.heap.size := ⟨_, rfl⟩
  obtain ⟨wA, hwA⟩ : ∃ w', w' = w.alloc (.cells #[.int .i64 18, .int .i64 a, .string sb] 51) := ⟨_, rfl⟩
  have hbA := (Below.refl w.heap.size w).alloc (Nat.le_refl _) (.cells #[.int .i64 18, .int .i64 a, .string sb] 51)
  rw [← hwA] at hbA
  have hiA : wA.heap[gi]? = some (.cells ([.int .i64 18, .int .i64 a, .string sb] : List Value).toArray 51 (0, 0)) := by rw [hwA, hgi]; exact alloc_at w _
  have hiR : gi ≠ R := by
    obtain ⟨_, _, _, _, h'⟩ := h
    have := blk_lt' h'.blk
    omega
  have HT := Aside0.mk (taken W0 R pV key fuel s wA (h.below hbA) hs 18 (by decide) (by decide))
  have ci0 : wA.cell? ⟨gi, 0, none⟩ = some (.int .i64 18) := cell_of_blk hiA
  have HIA := Aside0.mk hiA
  have HWA := Aside0.mk hwA
  have HGI := Aside0.mk hgi
  have HE := Aside0.mk hE
  have HSO := Aside0.mk hs
  clear hbA hiA hwA hgi hE hs h
  go_enter Tryd.func47, Tryd.ntmps47
  go_upto_region 1 with (fail)
  rw [← HGI.out, ← HWA.out]
  go_wp2_with fail
  refine HT.out.mono ?_
  rintro e w1 (⟨why, hwhy, rfl, hV, hF⟩ | ⟨A, c, vs, rfl, hvl, hC, hvo, hV, hch, hg, hF⟩)
  · have HV := Aside0.mk hV
    have HF := Aside0.mk (hF a sb)
    clear hV hF
    rcases hwhy with rfl | rfl
    all_goals
      go_wp2_with fail
      go_ret
      exact ⟨by rw [HF.out]; rfl, by rw [HF.out]; exact HV.out⟩
  · rw [show (kindL 18).length = 1 from rfl]
    have hi1 := hch.blk HIA.out hiR
    have ci0 : w1.cell? ⟨gi, 0, none⟩ = some (.int .i64 18) := cell_of_blk hi1
    have ci1 : w1.cell? ⟨gi, 1, none⟩ = some (.int .i64 a) := cell_of_blk hi1
    have ci2 : w1.cell? ⟨gi, 2, none⟩ = some (.string sb) := cell_of_blk hi1
    have HV := Aside0.mk hV
    have HF := Aside0.mk (hF a sb)
    have hfi : Free w1 R gi := ⟨hiR, fun v hv e => by
      obtain ⟨sV, _, _, _, h'⟩ := hV
      rw [h'.cell 7] at hv
      injection hv with hv
      subst hv
      obtain ⟨cs, h2⟩ := own_blkM h'.stk e
      exact blk_neM h2 hi1 (by decide) rfl⟩
    have hc7 : ∃ v, w1.cell? ⟨R, 7, none⟩ = some v := by obtain ⟨_, _, _, _, h'⟩ := hV; exact ⟨_, h'.cell 7⟩
    have hh0 : HeldM w1 w1.drew := HeldM.drew _
    have hhd : ∀ o, HeldM w1 (w1.alloc o).drew := fun o => below_drew1 ((Below.refl _ _).alloc (Nat.le_refl _) o)
    have hhl : ∀ w' o, HeldM w1 w' → HeldM w1 (w'.alloc o) := fun w' o h => Below.alloc (h : Below w1.heap.size w1 w') h.size o
    match vs, hvl with
    | [v0], _ =>
    obtain ⟨g, arr, rfl, hgb, hgf⟩ := hg (by decide)
    have hk0 := val_cells hC 0 v0 rfl
    have g0 : w1.cell? ⟨g, 0, none⟩ = some (.bool v0.text) := hk0.1
    have g1 : w1.cell? ⟨g, 1, none⟩ = some (.int .i64 v0.int) := hk0.2.1
    have g2 : w1.cell? ⟨g, 2, none⟩ = some (.string v0.bytes) := hk0.2.2
    have HO0 := Aside0.mk (hvo v0 (by simp))
    obtain ⟨t0, i0, b0⟩ := v0
    simp only at g0 g1 g2
    have hsz0 : b0.size ≤ 64 := HO0.out.b
    have HSG : Aside0 (∀ w' : World, w'.heap[g]? = w1.heap[g]? → w'.cell? ⟨g, 0, none⟩ = some (.bool t0) ∧ w'.cell? ⟨g, 1, none⟩ = some (.int .i64 i0) ∧ w'.cell? ⟨g, 2, none⟩ = some (.string b0)) := ⟨fun w' hw => ⟨(World.cell?_of_block hw).trans g0, (World.cell?_of_block hw).trans g1, (World.cell?_of_block hw).trans g2⟩⟩
    have HP : Aside0 (∀ w', HeldM w1 w' → ∀ A c vs, Kd.C kValM w' A vs.length vs → vs.length ≤ 1000 → Calls Tryd.prog 58 #[.pointer (some ⟨R, 0, none⟩), .slice A vs.length c] w' fun e w'' => e = .returned (.int .i64 (pushP (popS s 18) vs).1) ∧ VmR W0 R pV key fuel (pushP (popS s 18) vs).2 w'' ∧ (w''.cell? ⟨g, 0, none⟩ = some (.bool t0) ∧ w''.cell? ⟨g, 1, none⟩ = some (.int .i64 i0) ∧ w''.cell? ⟨g, 2, none⟩ = some (.string b0))) := ⟨fun w' hb A c vs hC hl => by
      have hb' : Below w1.heap.size w1 w' := hb
      refine (push W0 R pV key fuel (popS s 18) w' (hV.below hb') A c vs hC ⟨by have := (HSO.out.pop 18).sl; omega, hl⟩).mono ?_
      rintro e w'' ⟨rfl, h2, h3⟩
      obtain ⟨v7, hv7⟩ := hc7
      exact ⟨rfl, h2, HSG.out _ ((h3 g _ ((hb'.block g (blk_lt' hgb)).trans hgb) (hgf.below hv7 hb')).trans hgb.symm)⟩⟩
    have HK : Aside0 (∀ w', HeldM w1 w' → w'.cell? ⟨g, 0, none⟩ = some (.bool t0) ∧ w'.cell? ⟨g, 1, none⟩ = some (.int .i64 i0) ∧ w'.cell? ⟨g, 2, none⟩ = some (.string b0)) := ⟨fun w' hb => HSG.out _ ((show Below w1.heap.size w1 w' from hb).block g (blk_lt' hgb))⟩
    have HVW := Aside0.mk hV
    have hu := Tryd.underlying23
    clear hV hF hC hvo hch hg hi1 hfi hc7 hgb hgf hk0
    have HNU : Aside0 (Calls Tryd.prog 18 #[.string b0] w1 fun e w'' => e = .returned (.int .i64 (numB b0)) ∧ HeldM w1 w'') := ⟨by
      obtain ⟨_, _, _, _, h'⟩ := HVW.out
      exact valNumber b0 w1 (HE.out.below h'.bel) (by have := HO0.out.b; omega)⟩
    go_wp2_with fail
    refine HNU.out.mono ?_
    rintro e w2 ⟨rfl, hb2⟩
    have HB2 := Aside0.mk hb2
    clear hb2
    go_wp2_with fail
    refine (valInt (numB b0) w2).mono ?_
    rintro e w3 ⟨rfl, hb3⟩
    have HB3 := Aside0.mk (HB2.out.below hb3)
    clear hb3
    go_wp2_with fail
    refine (HP.out _ (hhl _ _ HB3.out) _ _ [intV (numB b0)] (lit_vals w3 _ _ _ rfl (by simp)) (by simp)).mono ?_
    rintro e w4 ⟨rfl, hV2, _⟩
    go_wp2_with fail
    go_ret
    exact ⟨by rw [HF.out]; rfl, by rw [HF.out]; exact hV2⟩
end Go.Proofs.YthdinhgadefgaaaDoor.K
