/- The machine: values are pushed. -/
import Derived.Test.YthdinhgadefgaaaDoorM2
set_option linter.unusedVariables false
set_option linter.unusedSimpArgs false
set_option maxRecDepth 100000
namespace Go.Proofs.YthdinhgadefgaaaDoor.K
open Go.RowKit Go.Proofs.YthdinhgadefgaaaDoorW.PrintWords Go.Proofs.YthdinhgadefgaaaDoorW.PrintLast Go.Proofs.YthdinhgadefgaaaDoorW.PrintMore Go.Proofs.YthdinhgadefgaaaDoor.U Go.Proofs.YthdinhgadefgaaaDoor.T Go.Proofs.YthdinhgadefgaaaDoor.V

theorem info_val : (Tryd.prog.info? 23).map (fun i => (i.zero, i.size, i.bytes)) = some (some (.agg #[.bool false, .int .i64 0, .string ⟨#[]⟩]), 3, 32) := by kernel_rfl
theorem info_pairM : (Tryd.prog.info? 49).map (fun i => (i.zero, i.size, i.bytes)) = some (some (.agg #[.string ⟨#[]⟩, .string ⟨#[]⟩]), 2, 32) := by kernel_rfl
/-- Too many bytes. -/
def BigV (v : ValD) : Prop := v.text = true ∧ 64 < v.bytes.size
instance (v : ValD) : Decidable (BigV v) := by unfold BigV; infer_instance
def pushW (st vs : List ValD) : Int := if ∃ v ∈ vs, BigV v then 4 else if 16 < st.length + vs.length then 1 else 0
def pushS (s : St) (vs : List ValD) : St := if pushW s.stack vs = 0 then { s with stack := s.stack ++ vs } else s
theorem HeldM.below {w w1 w2 : World} (h : HeldM w w1) (k : Below w1.heap.size w1 w2) : HeldM w w2 := two_belowM h k
/-- The stack's row grows: the rest stands. -/
theorem VmW.grow {W0 w w' : World} {R : Nat} {pV : Value} {key : ByteArray} {fuel : Int} {s : St} {sV tV vV v1 : Value} {m : Nat} {vs : List ValD} (h : VmW W0 R pV key fuel s sV tV vV m w) (hg : w.grownBy w' sV.ownBlock) (hv : Own kValM 23 w' W0.heap.size v1 (s.stack ++ vs)) (hat : ∀ k, v1.ownBlock = some k → sV.ownBlock = some k ∨ w.heap.size ≤ k) :
    w'.cell? ⟨R, 7, none⟩ = some sV ∧ w'.frozen? ⟨R, 7, none⟩ = false ∧ ∀ w2, w2 = w'.setCell ⟨R, 7, none⟩ v1 → VmW W0 R pV key fuel { s with stack := s.stack ++ vs } v1 tV vV m w2 := by
  have hc : Ch w w' (fun k => sV.ownBlock = some k) := Ch.of_grown hg (fun k hk => hk)
  have hb : w'.heap[R]? = _ := hc.blk h.blk (fun e => by
    obtain ⟨cs, h2⟩ := own_blkM h.stk e
    exact blk_neM h2 h.blk (by decide) rfl)
  refine ⟨cell_of_blk hb, frozen_of_blk hb, ?_⟩
  rintro w2 rfl
  have hc2 : Ch w' (w'.setCell ⟨R, 7, none⟩ v1) (fun k => k = R) := (Ch.refl _ _).setCell ⟨R, 7, none⟩ _ rfl
  have hB : Below W0.heap.size W0 w' := Below.ch h.bel hc h.bel.size (fun k hk => h.stk.base_ k hk)
  have hd : DigR W0.heap.size m w' := h.dig.ch hc (fun k hk hd => by
    obtain ⟨cs, h2⟩ := own_blkM h.stk hk
    rcases hd with ⟨es, c, hd⟩ | ⟨cs', fr, hd⟩
    · rw [h2] at hd; cases hd
    · exact blk_neM h2 hd (by decide) rfl)
  have ht : Own kPair 49 w' W0.heap.size tV s.told := h.tld.ch flat_pairM hc (fun k hk e => by
    obtain ⟨cs, h2⟩ := own_blkM h.tld hk
    obtain ⟨cs', h3⟩ := own_blkM h.stk e
    exact blk_neM h2 h3 (by decide) rfl)
  exact { blk := setCell_blk hb v1, low := h.low, bel := Below.ch hB hc2 hB.size (fun k hk => by rw [hk]; exact h.low), vals := h.vals, regs := h.regs
          stk := hv.ch flat_valM hc2 (fun k hk e => by
            obtain ⟨cs, h2⟩ := own_blkM hv hk
            exact blk_neM h2 hb (by decide) e)
          tld := ht.ch flat_pairM hc2 (fun k hk e => by
            obtain ⟨cs, h2⟩ := own_blkM ht hk
            exact blk_neM h2 hb (by decide) e)
          dig := hd.ch hc2 (fun k hk hd => by
            subst hk
            rcases hd with ⟨es, c, hd⟩ | ⟨cs, fr, hd⟩
            · rw [hb] at hd; cases hd
            · exact blk_neM hb hd (by decide) rfl) }
set_option maxHeartbeats 1600000 in
theorem push (W0 : World) (R : Nat) (pV : Value) (key : ByteArray) (fuel : Int) (s : St) (w : World) (h : VmR W0 R pV key fuel s w) (A : Option Addr) (c : Nat) (vs : List ValD) (hC : Kd.C kValM w A vs.length vs) (hl : s.stack.length ≤ 1000 ∧ vs.length ≤ 1000) :
    Calls Tryd.prog 58 #[.pointer (some ⟨R, 0, none⟩), .slice A vs.length c] w fun e w' => e = .returned (.int .i64 (pushW s.stack vs)) ∧ VmR W0 R pV key fuel (pushS s vs) w' ∧ (∀ g o, w.heap[g]? = some o → Free w R g → w'.heap[g]? = some o) := by
  obtain ⟨sV, tV, vV, m, h⟩ := h
  obtain ⟨sA, sc, rfl, _, _⟩ := h.stk.reads
  obtain ⟨hl1, hl2⟩ := hl
  have H := Aside0.mk h
  have HC := Aside0.mk hC
  have hu := Tryd.underlying23
  clear h hC
  go_enter Tryd.func58, Tryd.ntmps58
  go_wp2_with fail
  go_loopg [9] vs.length (fun kq v9 w' => ∃ k : Nat, k + kq = vs.length ∧ v9 = .int .i64 k ∧ Aside0 (∀ j (hj : j < vs.length), j < k → ¬ BigV vs[j]) ∧ Aside0 (HeldM w w'))
  case atStart => exact ⟨0, by omega, rfl, ⟨fun j hj h => by omega⟩, ⟨Below.refl _ _⟩⟩
  case round =>
    obtain ⟨k, hk, rfl, HA, HB⟩ := hrel
    by_cases hlt : k < vs.length
    · obtain ⟨ad, rfl, hx0, hx1, hx2⟩ := at_val (Kd.C_below HC.out HB.out) k hlt
      obtain ⟨x, hx⟩ : ∃ x, x = vs[k] := ⟨_, rfl⟩
      rw [← hx] at hx0 hx1 hx2
      have HX := Aside0.mk hx
      obtain ⟨t, i, b⟩ := x
      have hkl : (k : Int) < vs.length := by omega
      clear hx
      have HBA := Aside0.mk (HB.out.below ((Below.refl wr.heap.size wr).alloc (Nat.le_refl _) (.cells #[.bool t, .int .i64 i, .string b] 23)))
      by_cases hbig : t = true ∧ (64 : Int) < b.size
      · obtain ⟨rfl, hbig⟩ := hbig
        have hw4 : pushW s.stack vs = 4 := by
          unfold pushW
          rw [if_pos ⟨_, List.getElem_mem hlt, by rw [← HX.out]; exact ⟨rfl, by show 64 < b.size; omega⟩⟩]
        have hs4 : pushS s vs = s := by unfold pushS; rw [hw4, if_neg (by decide)]
        have HW4 := Aside0.mk (And.intro hw4 hs4)
        clear hw4 hs4
        go_wp2_with fail
        go_ret
        exact ⟨by rw [HW4.out.1]; rfl, by rw [HW4.out.2]; exact ⟨_, _, _, _, H.out.below HBA.out⟩, fun g o hg _ => (HBA.out.block g (blk_lt' hg)).trans hg⟩
      · have hno : ¬ BigV ⟨t, i, b⟩ := fun hb => hbig ⟨hb.1, by have h2 : 64 < b.size := hb.2; omega⟩
        have HNO := Aside0.mk hno
        have hor : t = false ∨ (t = true ∧ ¬ (64 : Int) < b.size) := by
          cases t
          · exact .inl rfl
          · exact .inr ⟨rfl, fun h => hbig ⟨rfl, h⟩⟩
        clear hno hbig
        rcases hor with rfl | ⟨rfl, hb⟩
        all_goals
          go_wp2_with fail
          go_roundg (vs.length - (k + 1))
          case measure => omega
          case rel => exact ⟨k + 1, by omega, by go_num, ⟨fun j hj h => by
              rcases Nat.lt_or_ge j k with h1 | h1
              · exact HA.out j hj h1
              · obtain rfl : j = k := by omega
                rw [← HX.out]
                exact HNO.out⟩, HBA⟩
    · obtain rfl : k = vs.length := by omega
      have hno : ¬ ∃ v ∈ vs, BigV v := by
        rintro ⟨v, hv, hb⟩
        obtain ⟨j, hj, rfl⟩ := List.getElem_of_mem hv
        exact HA.out j hj hj hb
      have H2 := Aside0.mk (H.out.below HB.out)
      have hblk : wr.cell? ⟨R, 7, none⟩ = some (.slice sA s.stack.length sc) := H2.out.cell 7
      by_cases h16 : (16 : Int) < s.stack.length + vs.length
      · have HW1 : Aside0 (pushW s.stack vs = 1 ∧ pushS s vs = s) := ⟨by
          have : pushW s.stack vs = 1 := by unfold pushW; rw [if_neg hno, if_pos (by omega)]
          exact ⟨this, by unfold pushS; rw [this, if_neg (by decide)]⟩⟩
        clear hno
        go_wp2_with fail
        go_ret
        exact ⟨by rw [HW1.out.1]; rfl, by rw [HW1.out.2]; exact ⟨_, _, _, _, H2.out⟩, fun g o hg _ => (HB.out.block g (blk_lt' hg)).trans hg⟩
      · have HW1 : Aside0 (pushW s.stack vs = 0 ∧ pushS s vs = { s with stack := s.stack ++ vs }) := ⟨by
          have : pushW s.stack vs = 0 := by unfold pushW; rw [if_neg hno, if_neg (by omega)]
          exact ⟨this, by unfold pushS; rw [this, if_pos rfl]⟩⟩
        clear hno
        have HCR := Aside0.mk (Kd.C_below HC.out HB.out)
        have hbs : W0.heap.size ≤ wr.heap.size := H2.out.bel.size
        go_wp2_with (at_builtin; refine wpList_app_own flat_valM W0.heap.size rfl _ _ 72 23 _ 32 rfl Tryd.underlying72 info_val rfl (by decide) (by decide) (.slice sA s.stack.length sc) s.stack vs A _ c rfl rfl H2.out.stk rfl HCR.out hbs (by omega) ?_; intro v4 w4 hv4 hg4 hat4; obtain ⟨A4, c4, rfl, _, _⟩ := hv4.reads; have HV4 := Aside0.mk hv4; have HG4 := Aside0.mk hg4; have HAT := Aside0.mk hat4; have h4 := H2.out.grow HG4.out HV4.out HAT.out; have hc4 : w4.cell? ⟨R, 7, none⟩ = some (.slice sA s.stack.length sc) := h4.1; have hz4 : w4.frozen? ⟨R, 7, none⟩ = false := h4.2.1; have H4 := Aside0.mk h4.2.2; clear hv4 hg4 hat4 h4)
        go_ret
        exact ⟨by rw [HW1.out.1]; rfl, by rw [HW1.out.2]; exact ⟨_, _, _, _, H4.out _ (by rw [List.length_append])⟩, fun g o hg hf => by
          have h1 : wr.heap[g]? = some o := (HB.out.block g (blk_lt' hg)).trans hg
          have h2 : w4.heap[g]? = some o := (HG4.out.block g (blk_lt' h1) (fun e => hf.2 _ (H.out.cell 7) e.symm)).trans h1
          exact (setCell_other (g := g) (k := g) ⟨R, 7, none⟩ _ hf.1).trans h2⟩
end Go.Proofs.YthdinhgadefgaaaDoor.K
