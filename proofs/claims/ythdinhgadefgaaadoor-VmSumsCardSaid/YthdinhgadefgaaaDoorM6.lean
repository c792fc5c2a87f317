/- The machine: next, emit, text. -/
import Derived.Test.YthdinhgadefgaaaDoorM5
set_option linter.unusedVariables false
set_option linter.unusedSimpArgs false
set_option maxRecDepth 100000
namespace Go.Proofs.YthdinhgadefgaaaDoor.K
open Go.RowKit Go.Proofs.YthdinhgadefgaaaDoorW.PrintWords Go.Proofs.YthdinhgadefgaaaDoorW.PrintLast Go.Proofs.YthdinhgadefgaaaDoorW.PrintMore Go.Proofs.YthdinhgadefgaaaDoor.U Go.Proofs.YthdinhgadefgaaaDoor.T Go.Proofs.YthdinhgadefgaaaDoor.V

/-- Text, at a run. -/
theorem vmTextR (W0 : World) (hE : Env W0) (R : Nat) (pV : Value) (key : ByteArray) (fuel : Int) (s : St) (w : World) (h : VmR W0 R pV key fuel s w) (n : Int) (hn : In64 n) :
    Calls Tryd.prog 62 #[.pointer (some ⟨R, 0, none⟩), .int .i64 n] w fun e w' => e = .returned (.string (digB n)) ∧ VmR W0 R pV key fuel s w' := by
  obtain ⟨sV, tV, vV, m, h⟩ := h
  refine (vmText W0 hE R m n hn w h.bel _ h.blk h.map_cell h.dig).mono ?_
  rintro e w' ⟨rfl, hd, hc⟩
  refine ⟨rfl, sV, tV, vV, m, ?_⟩
  have hno : ∀ {k cs fr t}, w.heap[k]? = some (.cells cs t fr) → t ≠ 132 → ¬ (W0.heap.size ≤ k ∧ DigS w k) := fun h1 h2 ⟨_, hd⟩ => by
    rcases hd with ⟨es, c, hd⟩ | ⟨cs', fr', hd⟩
    · rw [h1] at hd; cases hd
    · exact blk_neM h1 hd h2 rfl
  exact { blk := hc.blk h.blk (hno h.blk (by decide)), low := h.low, bel := Below.ch h.bel hc h.bel.size (fun k hk => hk.1), vals := h.vals, regs := h.regs
          stk := h.stk.ch flat_valM hc (fun k hk => by obtain ⟨cs, h2⟩ := own_blkM h.stk hk; exact hno h2 (by decide))
          tld := h.tld.ch flat_pairM hc (fun k hk => by obtain ⟨cs, h2⟩ := own_blkM h.tld hk; exact hno h2 (by decide))
          dig := hd }
theorem set_told (pV : Value) (key : ByteArray) (vV : Value) (fuel a b : Int) (c : Bool) (sV : Value) (rs : List Value) (tV v : Value) (m : Nat) (h : rs.length = 24) : (runL pV key vV fuel a b c sV rs tV m).set 32 v = runL pV key vV fuel a b c sV rs v m := by
  unfold runL
  show pV :: .string key :: vV :: .int .i64 fuel :: .int .i64 a :: .int .i64 b :: .bool c :: sV :: ((rs ++ [tV, .map (some m)]).set 24 v) = _
  rw [List.set_append_right _ _ (by omega), h]
  rfl
/-- The told row grows: the rest stands. -/
theorem VmW.growT {W0 w w' : World} {R : Nat} {pV : Value} {key : ByteArray} {fuel : Int} {s : St} {sV tV vV v1 : Value} {m : Nat} {vs : List PairD} (h : VmW W0 R pV key fuel s sV tV vV m w) (hg : w.grownBy w' tV.ownBlock) (hv : Own kPair 49 w' W0.heap.size v1 (s.told ++ vs)) :
    w'.cell? ⟨R, 32, none⟩ = some tV ∧ w'.frozen? ⟨R, 32, none⟩ = false ∧ ∀ w2, w2 = w'.setCell ⟨R, 32, none⟩ v1 → VmW W0 R pV key fuel { s with told := s.told ++ vs } sV v1 vV m w2 := by
  have hc : Ch w w' (fun k => tV.ownBlock = some k) := Ch.of_grown hg (fun k hk => hk)
  have hRt : ¬ tV.ownBlock = some R := fun e => by
    obtain ⟨cs, h2⟩ := own_blkM h.tld e
    exact blk_neM h2 h.blk (by decide) rfl
  have hb : w'.heap[R]? = _ := hc.blk h.blk hRt
  refine ⟨(hc.cell h.told_cell hRt), frozen_of_blk hb, ?_⟩
  rintro w2 rfl
  have hc2 : Ch w' (w'.setCell ⟨R, 32, none⟩ v1) (fun k => k = R) := (Ch.refl _ _).setCell ⟨R, 32, none⟩ _ rfl
  have hB : Below W0.heap.size W0 w' := Below.ch h.bel hc h.bel.size (fun k hk => h.tld.base_ k hk)
  have hd : DigR W0.heap.size m w' := h.dig.ch hc (fun k hk hd => by
    obtain ⟨cs, h2⟩ := own_blkM h.tld hk
    rcases hd with ⟨es, c, hd⟩ | ⟨cs', fr, hd⟩
    · rw [h2] at hd; cases hd
    · exact blk_neM h2 hd (by decide) rfl)
  have ht : Own kValM 23 w' W0.heap.size sV s.stack := h.stk.ch flat_valM hc (fun k hk e => by
    obtain ⟨cs, h2⟩ := own_blkM h.stk hk
    obtain ⟨cs', h3⟩ := own_blkM h.tld e
    exact blk_neM h2 h3 (by decide) rfl)
  have hb2 := setCell_blk (j := 32) hb v1
  rw [set_told _ _ _ _ _ _ _ _ _ _ _ _ (regL_length h.regs)] at hb2
  exact { blk := hb2, low := h.low, bel := Below.ch hB hc2 hB.size (fun k hk => by rw [hk]; exact h.low), vals := h.vals, regs := h.regs
          stk := ht.ch flat_valM hc2 (fun k hk e => by
            obtain ⟨cs, h2⟩ := own_blkM ht hk
            exact blk_neM h2 hb (by decide) e)
          tld := hv.ch flat_pairM hc2 (fun k hk e => by
            obtain ⟨cs, h2⟩ := own_blkM hv hk
            exact blk_neM h2 hb (by decide) e)
          dig := hd.ch hc2 (fun k hk hd => by
            subst hk
            rcases hd with ⟨es, c, hd⟩ | ⟨cs, fr, hd⟩
            · rw [hb] at hd; cases hd
            · exact blk_neM hb hd (by decide) rfl) }
theorem one_pairM (w : World) (p : PairD) : Own kPair 49 (w.alloc (.cells #[.string p.key, .string p.val] 49)) w.heap.size (.slice (some ⟨w.heap.size, 0, none⟩) 1 1) [p] := by
  refine ⟨fun _ _ => trivial, [.string p.key, .string p.val], ⟨rfl, .inr ⟨w.heap.size, 1, #[.string p.key, .string p.val], rfl, Nat.le_refl _, alloc_at w _, by simp, by unfold maxLen; omega, rfl, rfl⟩⟩, ⟨rfl, fun j x hj => ?_⟩⟩
  cases j with
  | zero => simp at hj; subst hj; exact flat_pairM.mk' (w := w) ⟨_, _, rfl, rfl, rfl⟩ _ _ _
  | succ j => simp at hj
def emitW (s : St) (k : ByteArray) : Int := if 16 < k.size then 4 else if 40 ≤ s.told.length then 5 else 0
def emitS (s : St) (k v : ByteArray) : St := if emitW s k = 0 then { s with told := s.told ++ [⟨k, v⟩] } else s
set_option maxHeartbeats 1600000 in
theorem vmEmit (W0 : World) (R : Nat) (pV : Value) (key : ByteArray) (fuel : Int) (s : St) (w : World) (h : VmR W0 R pV key fuel s w) (k v : ByteArray) (hk : k.size ≤ 1000000) :
    Calls Tryd.prog 63 #[.pointer (some ⟨R, 0, none⟩), .string k, .string v] w fun e w' => e = .returned (.int .i64 (emitW s k)) ∧ VmR W0 R pV key fuel (emitS s k v) w' ∧ (∀ g cs, w.heap[g]? = some (.cells cs 23 (0, 0)) → g ≠ R → w'.heap[g]? = some (.cells cs 23 (0, 0))) := by
  obtain ⟨sV, tV, vV, m, h⟩ := h
  obtain ⟨tA, tc, rfl, _, _⟩ := h.tld.reads
  have hct := h.told_cell
  have H := Aside0.mk h
  by_cases h16 : (16 : Int) < k.size
  · have HW : Aside0 (emitW s k = 4 ∧ emitS s k v = s) := ⟨by
      have : emitW s k = 4 := by unfold emitW; rw [if_pos (by omega)]
      exact ⟨this, by unfold emitS; rw [this, if_neg (by decide)]⟩⟩
    clear h
    go_enter Tryd.func63, Tryd.ntmps63
    go_wp2_with fail
    go_ret
    exact ⟨by rw [HW.out.1]; rfl, by rw [HW.out.2]; exact ⟨_, _, _, _, H.out⟩, fun g cs h _ => h⟩
  · by_cases h40 : (40 : Int) ≤ s.told.length
    · have HW : Aside0 (emitW s k = 5 ∧ emitS s k v = s) := ⟨by
        have : emitW s k = 5 := by unfold emitW; rw [if_neg (by omega), if_pos (by omega)]
        exact ⟨this, by unfold emitS; rw [this, if_neg (by decide)]⟩⟩
      clear h
      go_enter Tryd.func63, Tryd.ntmps63
      go_wp2_with fail
      go_ret
      exact ⟨by rw [HW.out.1]; rfl, by rw [HW.out.2]; exact ⟨_, _, _, _, H.out⟩, fun g cs h _ => h⟩
    · have HW : Aside0 (emitW s k = 0 ∧ emitS s k v = { s with told := s.told ++ [⟨k, v⟩] }) := ⟨by
        have : emitW s k = 0 := by unfold emitW; rw [if_neg (by omega), if_neg (by omega)]
        exact ⟨this, by unfold emitS; rw [this, if_pos rfl]⟩⟩
      have hbA := (Below.refl w.heap.size w).alloc (Nat.le_refl _) (.cells #[.string k, .string v] 49)
      have HA := Aside0.mk (h.below hbA)
      have HO := Aside0.mk (one_pairM w ⟨k, v⟩)
      have hbs : W0.heap.size ≤ w.heap.size := h.bel.size
      have hbs2 : W0.heap.size ≤ (w.alloc (.cells #[.string k, .string v] 49)).heap.size := Nat.le_trans hbs hbA.size
      clear h hbA
      go_enter Tryd.func63, Tryd.ntmps63
      go_wp2_with (at_builtin; refine wpList_app_own flat_pairM W0.heap.size rfl _ _ 42 49 _ 32 rfl Tryd.underlying42 info_pairM rfl (by decide) (by decide) (.slice tA s.told.length tc) s.told [⟨k, v⟩] (some ⟨w.heap.size, 0, none⟩) 1 1 rfl rfl HA.out.tld rfl HO.out.is.2.2 hbs2 (by simp; omega) ?_; intro v4 w4 hv4 hg4 hat4; obtain ⟨A4, c4, rfl, _, _⟩ := hv4.reads; have h4 := HA.out.growT hg4 hv4; have hc4 : w4.cell? ⟨R, 32, none⟩ = some (.slice tA s.told.length tc) := h4.1; have hz4 : w4.frozen? ⟨R, 32, none⟩ = false := h4.2.1; have H4 := Aside0.mk h4.2.2; have HG4 := Aside0.mk hg4; clear hv4 hg4 hat4 h4)
      go_ret
      exact ⟨by rw [HW.out.1]; rfl, by rw [HW.out.2]; exact ⟨_, _, _, _, H4.out _ (by rw [List.length_append]; rfl)⟩, fun g cs h hR => by
        have h1 : (w.alloc (.cells #[.string k, .string v] 49)).heap[g]? = some (.cells cs 23 (0, 0)) := alloc_keeps h _
        have h2 : w4.heap[g]? = some (.cells cs 23 (0, 0)) := (HG4.out.block g (blk_lt' h1) (fun e => by
          obtain ⟨cs', h3⟩ := own_blkM HA.out.tld e.symm
          exact blk_neM h1 h3 (by decide) rfl)).trans h1
        exact (setCell_other (g := g) (k := g) ⟨R, 32, none⟩ _ hR).trans h2⟩
theorem at_stringM {w : World} {A : Option Addr} {n : Nat} {xs : List ByteArray} (h : Kd.C Kd.string w A n xs) (k : Nat) (hk : k < xs.length) : ∃ ad, A = some ad ∧ w.cell? (ad.add k) = some (.string xs[k]) := by
  obtain ⟨ad, c, e, hl, hK, hc⟩ := Kd.C_get h ByteArray.empty (k : Int) (by omega) (by have := Kd.C_len h; omega)
  have e2 : xs.getD (k : Int).toNat ByteArray.empty = xs[k] := by rw [Int.toNat_natCast]; simp [List.getD_eq_getElem?_getD, hk]
  rw [e2] at hK
  have hK' : c = [.string xs[k]] := hK
  subst hK'
  have h0 := hc 0 _ rfl
  rw [Int.toNat_natCast] at h0
  exact ⟨ad, e, by rw [show k * Kd.string.sz + 0 = k from Nat.mul_one k] at h0; exact h0⟩
theorem sz_str (w : World) : (sizeOf 9).run Tryd.prog w = .ok 1 w := by rfl
theorem slice_tail (w : World) (A : Option Addr) (n c : Nat) (h1 : 1 ≤ n) : (Instr.slice 38 (.slice A n c) (some (.int .i64 1)) none none).run Tryd.prog w = .ok (.slice (if c = 1 then A else A.map (fun x => x.add (1 * 1))) (n - 1) (c - 1)) w := by
  unfold Instr.slice Instr.sliceBounds
  have := sliceB_run Tryd.prog w 1 n h1 .sliceB
  simp only [Sem.run_bind, run_underlying Tryd.underlying38, Result.andThen_ok, Sem.run_pure, Option.isSome_none, Bool.false_eq_true, if_false, show (1 : Int) = ((1 : Nat) : Int) from rfl, this, sz_str]
def nextW (s : St) : Int := match s.vals with
  | [] => pushW s.stack [intV 0]
  | v :: _ => pushW s.stack [txtV v, intV 1]
def nextS (s : St) : St := match s.vals with
  | [] => pushS s [intV 0]
  | v :: vs => pushS { s with vals := vs } [txtV v, intV 1]
/-- The values' own place is written. -/
theorem VmW.setVals {W0 w : World} {R : Nat} {pV : Value} {key : ByteArray} {fuel : Int} {s : St} {sV tV vV v1 : Value} {m : Nat} {vs : List ByteArray} (h : VmW W0 R pV key fuel s sV tV vV m w) (hv : ∃ A c, v1 = .slice A vs.length c ∧ vs.length ≤ c ∧ Kd.C Kd.string W0 A vs.length vs) : VmW W0 R pV key fuel { s with vals := vs } sV tV v1 m (w.setCell ⟨R, 2, none⟩ v1) :=
  h.upd ((Ch.refl _ _).setCell ⟨R, 2, none⟩ _ rfl) (setCell_blk h.blk v1) hv h.regs h.stk h.tld
set_option maxHeartbeats 1600000 in
theorem vmNext (W0 : World) (R : Nat) (pV : Value) (key : ByteArray) (fuel : Int) (s : St) (w : World) (h : VmR W0 R pV key fuel s w) (hl : s.stack.length ≤ 1000) (hv : s.vals.length ≤ 1000) :
    Calls Tryd.prog 59 #[.pointer (some ⟨R, 0, none⟩)] w fun e w' => e = .returned (.int .i64 (nextW s)) ∧ VmR W0 R pV key fuel (nextS s) w' := by
  obtain ⟨sV, tV, vV, m, h⟩ := h
  obtain ⟨vA, vc, rfl, hcap, hC⟩ := h.vals
  have hc2 : w.cell? ⟨R, 2, none⟩ = some (.slice vA s.vals.length vc) := h.cell 2
  have hz2 : w.frozen? ⟨R, 2, none⟩ = false := h.frozen 2
  cases hvs : s.vals with
  | nil =>
    have HW : Aside0 (nextW s = pushW s.stack [intV 0] ∧ nextS s = pushS s [intV 0]) := ⟨by unfold nextW nextS; rw [hvs]; exact ⟨rfl, rfl⟩⟩
    have HI : Aside0 (Calls Tryd.prog 26 #[.int .i64 0] w fun e w'' => e = .returned (.agg #[.bool false, .int .i64 0, .string ⟨#[]⟩]) ∧ Aside0 (VmR W0 R pV key fuel s w'')) := ⟨(valInt 0 w).mono (fun e w'' k => ⟨k.1, ⟨_, _, _, _, h.below k.2⟩⟩)⟩
    rw [hvs] at hc2
    have hc3 : w.cell? ⟨R, 2, none⟩ = some (.slice vA 0 vc) := hc2
    clear hc2 h hC
    go_enter Tryd.func59, Tryd.ntmps59
    go_wp2_with fail
    refine HI.out.mono ?_
    rintro e w1 ⟨rfl, HV⟩
    go_wp2_with fail
    refine (push W0 R pV key fuel s _ (HV.out.below ((Below.refl w1.heap.size w1).alloc (Nat.le_refl _) _)) (some ⟨w1.heap.size, 0, none⟩) 1 [intV 0] (lit_vals w1 [intV 0] _ _ rfl (by simp)) ⟨hl, by simp⟩).mono ?_
    rintro e w2 ⟨rfl, HV2, _⟩
    go_wp2_with fail
    go_ret
    exact ⟨by rw [HW.out.1]; rfl, by rw [HW.out.2]; exact HV2⟩
  | cons v vs =>
    have HW : Aside0 (nextW s = pushW s.stack [txtV v, intV 1] ∧ nextS s = pushS { s with vals := vs } [txtV v, intV 1]) := ⟨by unfold nextW nextS; rw [hvs]; exact ⟨rfl, rfl⟩⟩
    rw [hvs] at hC hc2
    have hC2 := Kd.C_below hC h.bel
    obtain ⟨ad, rfl, hx⟩ := at_stringM hC2 0 (by simp)
    simp only [List.getElem_cons_zero] at hx
    have hx0 : w.cell? ad = some (.string v) := by rw [show ad.add 0 = ad from by cases ad; rfl] at hx; exact hx
    clear hx
    rw [hvs] at hcap
    have hlen : ((v :: vs).length : Nat) = vs.length + 1 := rfl
    obtain ⟨N, hN⟩ : ∃ N, N = (v :: vs).length := ⟨_, rfl⟩
    rw [← hN] at hc2
    have hn0 : (N == 0) = false := by rw [hN]; rfl
    have hnI : ((N : Int) == 0) = false := by rw [hN]; simp; omega
    have hn0' : ¬ N = 0 := by rw [hN]; simp
    have hn1 : (0 : Int) < N := by omega
    have hsl : ∀ w, (Instr.slice 38 (.slice (some ad) N vc) (some (.int .i64 1)) none none).run Tryd.prog w = .ok (.slice (if vc = 1 then some ad else some (ad.add (1 * 1))) vs.length (vc - 1)) w := fun w => by
      rw [slice_tail w (some ad) N vc (by omega), hN]; rfl
    have hq : ∃ A c, (Value.slice (if vc = 1 then some ad else some (ad.add (1 * 1))) vs.length (vc - 1)) = .slice A vs.length c ∧ vs.length ≤ c ∧ Kd.C Kd.string W0 A vs.length vs := by
      refine ⟨_, _, rfl, by simp at hcap; omega, ?_⟩
      cases hvz : vs with
      | nil => exact ⟨rfl, by simp, fun h => by simp at h⟩
      | cons v2 vs2 =>
        rw [if_neg (by rw [hvz] at hcap; simp at hcap; omega)]
        have := C_cut hC 1 vs.length (by simp; omega)
        rw [List.drop_succ_cons, List.drop_zero, List.take_length, hvz] at this
        exact this
    obtain ⟨T, hT⟩ : ∃ T, T = (if vc = 1 then some ad else some (ad.add (1 * 1))) := ⟨_, rfl⟩
    rw [← hT] at hsl hq
    have HS1 := Aside0.mk (h.setVals hq)
    clear hC hC2 hq hT hlen hN
    go_enter Tryd.func59, Tryd.ntmps59
    go_wp2_with fail
    refine (valBytes _ _).mono ?_
    rintro e w1 ⟨rfl, hb1⟩
    go_wp2_with fail
    refine (valInt _ _).mono ?_
    rintro e w2 ⟨rfl, hb2⟩
    have HV2 := Aside0.mk ((HS1.out.below hb1).below hb2)
    clear hb1 hb2
    go_wp2_with fail
    refine (push W0 R pV key fuel { s with vals := vs } _ ⟨_, _, _, _, HV2.out.below ((Below.refl w2.heap.size w2).alloc (Nat.le_refl _) _)⟩ (some ⟨w2.heap.size, 0, none⟩) 2 [txtV v, intV 1] (lit_vals w2 [txtV v, intV 1] _ _ rfl (by simp)) ⟨hl, by simp⟩).mono ?_
    rintro e w3 ⟨rfl, HV3, _⟩
    go_wp2_with fail
    go_ret
    exact ⟨by rw [HW.out.1]; rfl, by rw [HW.out.2]; exact HV3⟩
end Go.Proofs.YthdinhgadefgaaaDoor.K
