/- The machine: instructions. -/
import Derived.Test.YthdinhgadefgaaaDoorM7
import Derived.Deep.RegionHeldLaw
set_option linter.unusedVariables false
set_option linter.unusedSimpArgs false
set_option maxRecDepth 100000
namespace Go.Proofs.YthdinhgadefgaaaDoor.K
open Go.RowKit Go.Proofs.YthdinhgadefgaaaDoorW.PrintWords Go.Proofs.YthdinhgadefgaaaDoorW.PrintLast Go.Proofs.YthdinhgadefgaaaDoorW.PrintMore Go.Proofs.YthdinhgadefgaaaDoor.U Go.Proofs.YthdinhgadefgaaaDoor.T Go.Proofs.YthdinhgadefgaaaDoor.V
set_option maxHeartbeats 3200000 in
theorem does_21 (W0 : World) (hE : Env W0) (R : Nat) (pV : Value) (key : ByteArray) (fuel : Int) (s : St) (w : World) (h : VmR W0 R pV key fuel s w) (hs : SOk s) (j : Nat) (hj : j < 8) (sb : ByteArray) :
    Calls Tryd.prog 47 #[.pointer (some ⟨R, 0, none⟩), .agg #[.int .i64 21, .int .i64 j, .string sb]] w fun e w' => e = .returned (.int .i64 (doesF key s 21 (j : Int) sb).1) ∧ VmR W0 R pV key fuel (doesF key s 21 (j : Int) sb).2 w' := by
  obtain ⟨gi, hgi⟩ : ∃ g, g = w.heap.size := ⟨_, rfl⟩
  obtain ⟨wA, hwA⟩ : ∃ w', w' = w.alloc (.cells #[.int .i64 21, .int .i64 j, .string sb] 51) := ⟨_, rfl⟩
  have hbA := (Below.refl w.heap.size w).alloc (Nat.le_refl _) (.cells #[.int .i64 21, .int .i64 j, .string sb] 51)
  rw [← hwA] at hbA
  have hiA : wA.heap[gi]? = some (.cells ([.int .i64 21, .int .i64 j, .string sb] : List Value).toArray 51 (0, 0)) := by rw [hwA, hgi]; exact alloc_at w _
  have hiR : gi ≠ R := by
    obtain ⟨_, _, _, _, h'⟩ := h
    have := blk_lt' h'.blk
    omega
  have HT := Aside0.mk (taken W0 R pV key fuel s wA (h.below hbA) hs 21 (by decide) (by decide))
  have ci0 : wA.cell? ⟨gi, 0, none⟩ = some (.int .i64 21) := cell_of_blk hiA
  have HIA := Aside0.mk hiA
  have HWA := Aside0.mk hwA
  have HGI := Aside0.mk hgi
  have HE := Aside0.mk hE
  have HSO := Aside0.mk hs
  clear hbA hiA hwA hgi hE hs h
  go_enter Tryd.func47, Tryd.ntmps47
  go_upto_region 1 with (fail)
  rw [← HGI.out, ← HWA.out]
  go_wp2_with fail
  refine HT.out.mono ?_
  rintro e w1 (⟨why, hwhy, rfl, hV, hF⟩ | ⟨A, c, vs, rfl, hvl, hC, hvo, hV, hch, hg, hF⟩)
  · have HV := Aside0.mk hV
    have HF := Aside0.mk (hF j sb)
    clear hV hF
    rcases hwhy with rfl | rfl
    all_goals
      go_wp2_with fail
      go_ret
      exact ⟨by rw [HF.out]; rfl, by rw [HF.out]; exact HV.out⟩
  · rw [show (kindL 21).length = 0 from rfl]
    have hi1 := hch.blk HIA.out hiR
    have ci0 : w1.cell? ⟨gi, 0, none⟩ = some (.int .i64 21) := cell_of_blk hi1
    have ci1 : w1.cell? ⟨gi, 1, none⟩ = some (.int .i64 j) := cell_of_blk hi1
    have ci2 : w1.cell? ⟨gi, 2, none⟩ = some (.string sb) := cell_of_blk hi1
    have HV := Aside0.mk hV
    have HF := Aside0.mk (hF j sb)
    have hfi : Free w1 R gi := ⟨hiR, fun v hv e => by
      obtain ⟨sV, _, _, _, h'⟩ := hV
      rw [h'.cell 7] at hv
      injection hv with hv
      subst hv
      obtain ⟨cs, h2⟩ := own_blkM h'.stk e
      exact blk_neM h2 hi1 (by decide) rfl⟩
    have hc7 : ∃ v, w1.cell? ⟨R, 7, none⟩ = some v := by obtain ⟨_, _, _, _, h'⟩ := hV; exact ⟨_, h'.cell 7⟩
    have hh0 : HeldM w1 w1.drew := HeldM.drew _
    have hhd : ∀ o, HeldM w1 (w1.alloc o).drew := fun o => below_drew1 ((Below.refl _ _).alloc (Nat.le_refl _) o)
    have hhl : ∀ w' o, HeldM w1 w' → HeldM w1 (w'.alloc o) := fun w' o h => Below.alloc (h : Below w1.heap.size w1 w') h.size o
    match vs, hvl with
    | [], _ =>
    have HP : Aside0 (∀ w', HeldM w1 w' → ∀ A c vs, Kd.C kValM w' A vs.length vs → vs.length ≤ 1000 → Calls Tryd.prog 58 #[.pointer (some ⟨R, 0, none⟩), .slice A vs.length c] w' fun e w'' => e = .returned (.int .i64 (pushP (popS s 21) vs).1) ∧ VmR W0 R pV key fuel (pushP (popS s 21) vs).2 w'' ∧ (True)) := ⟨fun w' hb A c vs hC hl => by
      have hb' : Below w1.heap.size w1 w' := hb
      refine (push W0 R pV key fuel (popS s 21) w' (hV.below hb') A c vs hC ⟨by have := (HSO.out.pop 21).sl; omega, hl⟩).mono ?_
      rintro e w'' ⟨rfl, h2, h3⟩
      obtain ⟨v7, hv7⟩ := hc7
      exact ⟨rfl, h2, trivial⟩⟩
    have HK : Aside0 (∀ w', HeldM w1 w' → True) := ⟨fun w' hb => trivial⟩
    have HVW := Aside0.mk hV
    have hu := Tryd.underlying23
    obtain ⟨sV, tV, vV, m, hW⟩ := id HVW.out
    obtain ⟨x, hx⟩ : ∃ x, x = s.regs.getD j (intV 0) := ⟨_, rfl⟩
    have hr := hW.reg_cell j hj
    rw [show (popS s 21).regs = s.regs from rfl, ← hx] at hr
    obtain ⟨r0, r1, r2⟩ := hr
    have HX := Aside0.mk hx
    have hRlt := blk_lt' hW.blk
    clear hx hW
    obtain ⟨tx, ix, bx⟩ := x
    simp only at r0 r1 r2
    have hjI : (j : Int) < 8 := by omega
    have HKR : Aside0 (∀ w', HeldM w1 w' → w'.cell? ⟨gi, 1, none⟩ = some (.int .i64 j) ∧ w'.cell? ⟨R, 8 + j * 3, none⟩ = some (.bool tx) ∧ w'.cell? ⟨R, 8 + j * 3 + 1, none⟩ = some (.int .i64 ix) ∧ w'.cell? ⟨R, 8 + j * 3 + 2, none⟩ = some (.string bx)) := ⟨fun w' hb => by
      have hb' : Below w1.heap.size w1 w' := hb
      have q2 := hb'.block R hRlt
      exact ⟨(World.cell?_of_block (hb'.block gi (blk_lt' hi1))).trans ci1, (World.cell?_of_block q2).trans r0, (World.cell?_of_block q2).trans r1, (World.cell?_of_block q2).trans r2⟩⟩
    have HPR : Aside0 (∀ w', HeldM w1 w' → ∀ A c vs, Kd.C kValM w' A vs.length vs → vs.length ≤ 1000 → Calls Tryd.prog 58 #[.pointer (some ⟨R, 0, none⟩), .slice A vs.length c] w' fun e w'' => e = .returned (.int .i64 (pushP (popS s 21) vs).1) ∧ VmR W0 R pV key fuel (pushP (popS s 21) vs).2 w'' ∧ (w''.cell? ⟨gi, 1, none⟩ = some (.int .i64 j) ∧ w''.cell? ⟨R, 8 + j * 3, none⟩ = some (.bool tx) ∧ w''.cell? ⟨R, 8 + j * 3 + 1, none⟩ = some (.int .i64 ix) ∧ w''.cell? ⟨R, 8 + j * 3 + 2, none⟩ = some (.string bx))) := ⟨fun w' hb A c vs hC hl => by
      have hb' : Below w1.heap.size w1 w' := hb
      refine (push W0 R pV key fuel (popS s 21) w' (hV.below hb') A c vs hC ⟨by have := (HSO.out.pop 21).sl; omega, hl⟩).mono ?_
      rintro e w'' ⟨rfl, h2, h3⟩
      obtain ⟨v7, hv7⟩ := hc7
      refine ⟨rfl, h2, (World.cell?_of_block ((h3 gi _ ((hb'.block gi (blk_lt' hi1)).trans hi1) (hfi.below hv7 hb')).trans hi1.symm)).trans ci1, ?_⟩
      obtain ⟨_, _, _, _, h4⟩ := h2
      have hr := h4.reg_cell j hj
      rw [pushS_regs, show (popS s 21).regs = s.regs from rfl, ← HX.out] at hr
      exact hr⟩
    have hj0 : (0 : Int) ≤ (j : Int) := by omega
    clear hV hF hC hvo hch hg hi1 hfi hc7 hRlt
    go_wp2_with fail
    go_region_held3 (fun w' => w'.cell? ⟨gi, 1, none⟩ = some (.int .i64 j) ∧ w'.cell? ⟨R, 8 + j * 3, none⟩ = some (.bool tx) ∧ w'.cell? ⟨R, 8 + j * 3 + 1, none⟩ = some (.int .i64 ix) ∧ w'.cell? ⟨R, 8 + j * 3 + 2, none⟩ = some (.string bx)) (first | assumption | exact HKR.out _ (by first | assumption | exact hhd _ | exact hhl _ _ (by assumption)))
     ((go_at_call 58; ((refine (HPR.out _ (hhd _) _ _ [⟨tx, ix, bx⟩] (lit_vals w1.drew _ _ _ rfl (by simp)) (by simp)).mono ?_); rintro e wz ⟨rfl, hV2, hSz⟩)))
    go_wp2_with fail
    go_ret
    have hq : opS key (popS s 21) (21 : Int).toNat (j : Int) sb [] = pushP (popS s 21) [⟨tx, ix, bx⟩] := by
      show pushP (popS s 21) [s.regs.getD (j : Int).toNat (intV 0)] = _
      rw [Int.toNat_natCast, ← HX.out]
    exact ⟨by rw [HF.out, hq]; rfl, by rw [HF.out, hq]; exact hV2⟩

set_option maxHeartbeats 3200000 in
theorem does_22 (W0 : World) (hE : Env W0) (R : Nat) (pV : Value) (key : ByteArray) (fuel : Int) (s : St) (w : World) (h : VmR W0 R pV key fuel s w) (hs : SOk s) (j : Nat) (hj : j < 8) (sb : ByteArray) :
    Calls Tryd.prog 47 #[.pointer (some ⟨R, 0, none⟩), .agg #[.int .i64 22, .int .i64 j, .string sb]] w fun e w' => e = .returned (.int .i64 (doesF key s 22 (j : Int) sb).1) ∧ VmR W0 R pV key fuel (doesF key s 22 (j : Int) sb).2 w' := by
  obtain ⟨gi, hgi⟩ : ∃ g, g = w.heap.size := ⟨_, rfl⟩
  obtain ⟨wA, hwA⟩ : ∃ w', w' = w.alloc (.cells #[.int .i64 22, .int .i64 j, .string sb] 51) := ⟨_, rfl⟩
  have hbA := (Below.refl w.heap.size w).alloc (Nat.le_refl _) (.cells #[.int .i64 22, .int .i64 j, .string sb] 51)
  rw [← hwA] at hbA
  have hiA : wA.heap[gi]? = some (.cells ([.int .i64 22, .int .i64 j, .string sb] : List Value).toArray 51 (0, 0)) := by rw [hwA, hgi]; exact alloc_at w _
  have hiR : gi ≠ R := by
    obtain ⟨_, _, _, _, h'⟩ := h
    have := blk_lt' h'.blk
    omega
  have HT := Aside0.mk (taken W0 R pV key fuel s wA (h.below hbA) hs 22 (by decide) (by decide))
  have ci0 : wA.cell? ⟨gi, 0, none⟩ = some (.int .i64 22) := cell_of_blk hiA
  have HIA := Aside0.mk hiA
  have HWA := Aside0.mk hwA
  have HGI := Aside0.mk hgi
  have HE := Aside0.mk hE
  have HSO := Aside0.mk hs
  clear hbA hiA hwA hgi hE hs h
  go_enter Tryd.func47, Tryd.ntmps47
  go_upto_region 1 with (fail)
  rw [← HGI.out, ← HWA.out]
  go_wp2_with fail
  refine HT.out.mono ?_
  rintro e w1 (⟨why, hwhy, rfl, hV, hF⟩ | ⟨A, c, vs, rfl, hvl, hC, hvo, hV, hch, hg, hF⟩)
  · have HV := Aside0.mk hV
    have HF := Aside0.mk (hF j sb)
    clear hV hF
    rcases hwhy with rfl | rfl
    all_goals
      go_wp2_with fail
      go_ret
      exact ⟨by rw [HF.out]; rfl, by rw [HF.out]; exact HV.out⟩
  · rw [show (kindL 22).length = 1 from rfl]
    have hi1 := hch.blk HIA.out hiR
    have ci0 : w1.cell? ⟨gi, 0, none⟩ = some (.int .i64 22) := cell_of_blk hi1
    have ci1 : w1.cell? ⟨gi, 1, none⟩ = some (.int .i64 j) := cell_of_blk hi1
    have ci2 : w1.cell? ⟨gi, 2, none⟩ = some (.string sb) := cell_of_blk hi1
    have HV := Aside0.mk hV
    have HF := Aside0.mk (hF j sb)
    have hfi : Free w1 R gi := ⟨hiR, fun v hv e => by
      obtain ⟨sV, _, _, _, h'⟩ := hV
      rw [h'.cell 7] at hv
      injection hv with hv
      subst hv
      obtain ⟨cs, h2⟩ := own_blkM h'.stk e
      exact blk_neM h2 hi1 (by decide) rfl⟩
    have hc7 : ∃ v, w1.cell? ⟨R, 7, none⟩ = some v := by obtain ⟨_, _, _, _, h'⟩ := hV; exact ⟨_, h'.cell 7⟩
    have hh0 : HeldM w1 w1.drew := HeldM.drew _
    have hhd : ∀ o, HeldM w1 (w1.alloc o).drew := fun o => below_drew1 ((Below.refl _ _).alloc (Nat.le_refl _) o)
    have hhl : ∀ w' o, HeldM w1 w' → HeldM w1 (w'.alloc o) := fun w' o h => Below.alloc (h : Below w1.heap.size w1 w') h.size o
    match vs, hvl with
    | [v0], _ =>
    obtain ⟨g, arr, rfl, hgb, hgf⟩ := hg (by decide)
    have hk0 := val_cells hC 0 v0 rfl
    have g0 : w1.cell? ⟨g, 0, none⟩ = some (.bool v0.text) := hk0.1
    have g1 : w1.cell? ⟨g, 1, none⟩ = some (.int .i64 v0.int) := hk0.2.1
    have g2 : w1.cell? ⟨g, 2, none⟩ = some (.string v0.bytes) := hk0.2.2
    have HO0 := Aside0.mk (hvo v0 (by simp))
    obtain ⟨t0, i0, b0⟩ := v0
    simp only at g0 g1 g2
    have hsz0 : b0.size ≤ 64 := HO0.out.b
    have HSG : Aside0 (∀ w' : World, w'.heap[g]? = w1.heap[g]? → w'.cell? ⟨g, 0, none⟩ = some (.bool t0) ∧ w'.cell? ⟨g, 1, none⟩ = some (.int .i64 i0) ∧ w'.cell? ⟨g, 2, none⟩ = some (.string b0)) := ⟨fun w' hw => ⟨(World.cell?_of_block hw).trans g0, (World.cell?_of_block hw).trans g1, (World.cell?_of_block hw).trans g2⟩⟩
    have HP : Aside0 (∀ w', HeldM w1 w' → ∀ A c vs, Kd.C kValM w' A vs.length vs → vs.length ≤ 1000 → Calls Tryd.prog 58 #[.pointer (some ⟨R, 0, none⟩), .slice A vs.length c] w' fun e w'' => e = .returned (.int .i64 (pushP (popS s 22) vs).1) ∧ VmR W0 R pV key fuel (pushP (popS s 22) vs).2 w'' ∧ (w''.cell? ⟨g, 0, none⟩ = some (.bool t0) ∧ w''.cell? ⟨g, 1, none⟩ = some (.int .i64 i0) ∧ w''.cell? ⟨g, 2, none⟩ = some (.string b0))) := ⟨fun w' hb A c vs hC hl => by
      have hb' : Below w1.heap.size w1 w' := hb
      refine (push W0 R pV key fuel (popS s 22) w' (hV.below hb') A c vs hC ⟨by have := (HSO.out.pop 22).sl; omega, hl⟩).mono ?_
      rintro e w'' ⟨rfl, h2, h3⟩
      obtain ⟨v7, hv7⟩ := hc7
      exact ⟨rfl, h2, HSG.out _ ((h3 g _ ((hb'.block g (blk_lt' hgb)).trans hgb) (hgf.below hv7 hb')).trans hgb.symm)⟩⟩
    have HK : Aside0 (∀ w', HeldM w1 w' → w'.cell? ⟨g, 0, none⟩ = some (.bool t0) ∧ w'.cell? ⟨g, 1, none⟩ = some (.int .i64 i0) ∧ w'.cell? ⟨g, 2, none⟩ = some (.string b0)) := ⟨fun w' hb => HSG.out _ ((show Below w1.heap.size w1 w' from hb).block g (blk_lt' hgb))⟩
    have HVW := Aside0.mk hV
    have hu := Tryd.underlying23
    obtain ⟨sV, tV, vV, m, hW⟩ := id HVW.out
    have hr := hW.reg_cell j hj
    rw [show (popS s 22).regs = s.regs from rfl] at hr
    obtain ⟨y, hy⟩ : ∃ y, y = s.regs.getD j (intV 0) := ⟨_, rfl⟩
    rw [← hy] at hr
    obtain ⟨r0, r1, r2⟩ := hr
    have z0 : w1.frozen? ⟨R, 8 + j * 3, none⟩ = false := hW.frozen (8 + j * 3)
    have z1 : w1.frozen? ⟨R, 8 + j * 3 + 1, none⟩ = false := hW.frozen (8 + j * 3 + 1)
    have z2 : w1.frozen? ⟨R, 8 + j * 3 + 2, none⟩ = false := hW.frozen (8 + j * 3 + 2)
    have hjI : (j : Int) < 8 := by omega
    have hj0 : (0 : Int) ≤ (j : Int) := by omega
    have HKS : Aside0 (∀ w', Ch w1 w' (fun k => k = R) → w'.cell? ⟨gi, 1, none⟩ = some (.int .i64 j) ∧ w'.cell? ⟨g, 0, none⟩ = some (.bool t0) ∧ w'.cell? ⟨g, 1, none⟩ = some (.int .i64 i0) ∧ w'.cell? ⟨g, 2, none⟩ = some (.string b0)) := ⟨fun w' hb => by
      have q := HSG.out _ (hb.block g (blk_lt' hgb) hgf.1)
      exact ⟨(World.cell?_of_block (hb.block gi (blk_lt' hi1) hiR)).trans ci1, q⟩⟩
    have HWW := Aside0.mk hW
    clear hV hF hC hvo hch hg hi1 hfi hc7 hgb hgf hk0 hW hy
    go_wp2_with fail
    go_region_held3 (fun w' => w'.cell? ⟨gi, 1, none⟩ = some (.int .i64 j) ∧ w'.cell? ⟨g, 0, none⟩ = some (.bool t0) ∧ w'.cell? ⟨g, 1, none⟩ = some (.int .i64 i0) ∧ w'.cell? ⟨g, 2, none⟩ = some (.string b0)) (first | assumption | exact HKS.out _ (by repeat (first | exact Ch.refl _ _ | apply chDrew | (refine Ch.setCell ?_ _ _ rfl)))) (fail)
    go_wp2_with fail
    go_ret
    have hq : opS key (popS s 22) (22 : Int).toNat (j : Int) sb [⟨t0, i0, b0⟩] = (0, { popS s 22 with regs := s.regs.set j ⟨t0, i0, b0⟩ }) := by
      show ((0 : Int), ({ popS s 22 with regs := s.regs.set (j : Int).toNat ⟨t0, i0, b0⟩ } : St)) = _
      rw [Int.toNat_natCast]
    have hz := (HWW.out.setReg j hj ⟨t0, i0, b0⟩).below (HeldM.drew _)
    exact ⟨by rw [HF.out, hq]; rfl, by rw [HF.out, hq]; exact ⟨_, _, _, _, hz⟩⟩
end Go.Proofs.YthdinhgadefgaaaDoor.K
