/- The machine: what an instruction does, as a function. -/
import Derived.Test.YthdinhgadefgaaaDoorM6
set_option linter.unusedVariables false
set_option linter.unusedSimpArgs false
set_option maxRecDepth 100000
namespace Go.Proofs.YthdinhgadefgaaaDoor.K
open Go.RowKit Go.Proofs.YthdinhgadefgaaaDoorW.PrintWords Go.Proofs.YthdinhgadefgaaaDoorW.PrintLast Go.Proofs.YthdinhgadefgaaaDoorW.PrintMore Go.Proofs.YthdinhgadefgaaaDoor.U Go.Proofs.YthdinhgadefgaaaDoor.T Go.Proofs.YthdinhgadefgaaaDoor.V

instance (x y : ValD) : Decidable (sameV x y) := by unfold sameV; infer_instance
def pushP (s : St) (vs : List ValD) : Int × St := (pushW s.stack vs, pushS s vs)
/-- What is done with the values taken. -/
def opS (key : ByteArray) (s : St) (op : Nat) (a : Int) (sb : ByteArray) (v : List ValD) : Int × St :=
  match op with
  | 0 => (0, { s with halted := true })
  | 1 => pushP s [intV a]
  | 2 => pushP s [txtV sb]
  | 3 => pushP s [v.getD 0 (intV 0), v.getD 0 (intV 0)]
  | 5 => pushP s [v.getD 1 (intV 0), v.getD 0 (intV 0)]
  | 6 => pushP s [txtV key]
  | 7 => (nextW s, nextS s)
  | 8 => pushP s [intV (numO 8 (v.getD 0 (intV 0)).int (v.getD 1 (intV 0)).int)]
  | 9 => pushP s [intV (numO 9 (v.getD 0 (intV 0)).int (v.getD 1 (intV 0)).int)]
  | 10 => pushP s [intV (numO 10 (v.getD 0 (intV 0)).int (v.getD 1 (intV 0)).int)]
  | 11 => pushP s [intV (numO 11 (v.getD 0 (intV 0)).int (v.getD 1 (intV 0)).int)]
  | 12 => pushP s [intV (boolN (decide (sameV (v.getD 0 (intV 0)) (v.getD 1 (intV 0)))))]
  | 13 => pushP s [txtV ((v.getD 0 (intV 0)).bytes ++ (v.getD 1 (intV 0)).bytes)]
  | 14 => pushP s [intV (v.getD 0 (intV 0)).bytes.size]
  | 15 => pushP s [intV (atB (v.getD 0 (intV 0)).bytes (v.getD 1 (intV 0)).int)]
  | 16 => pushP s [txtV (cutB (v.getD 0 (intV 0)).bytes (v.getD 1 (intV 0)).int (v.getD 2 (intV 0)).int)]
  | 17 => pushP s [txtV (digB (v.getD 0 (intV 0)).int)]
  | 18 => pushP s [intV (numB (v.getD 0 (intV 0)).bytes)]
  | 19 => (0, { s with at_ := a })
  | 20 => (0, if (v.getD 0 (intV 0)).int = 0 then s else { s with at_ := a })
  | 21 => pushP s [s.regs.getD a.toNat (intV 0)]
  | 22 => (0, { s with regs := s.regs.set a.toNat (v.getD 0 (intV 0)) })
  | 23 => (emitW s (v.getD 0 (intV 0)).bytes, emitS s (v.getD 0 (intV 0)).bytes (v.getD 1 (intV 0)).bytes)
  | _ => (0, s)
def popS (s : St) (op : Int) : St := { s with stack := s.stack.take (s.stack.length - (kindL op).length) }
/-- What an instruction does. -/
def doesF (key : ByteArray) (s : St) (op a : Int) (sb : ByteArray) : Int × St :=
  if s.stack.length < (kindL op).length then (1, s) else if fitsK (kindL op) (topV s.stack op) = false then (2, s) else opS key (popS s op) op.toNat a sb (topV s.stack op)
structure VOk (v : ValD) : Prop where
  i : In64 v.int
  b : v.bytes.size ≤ 64
structure SOk (s : St) : Prop where
  sl : s.stack.length ≤ 16
  sv : ∀ v ∈ s.stack, VOk v
  rl : s.regs.length = 8
  rv : ∀ v ∈ s.regs, VOk v
  tl : s.told.length ≤ 40
  tv : ∀ p ∈ s.told, p.key.size ≤ 16 ∧ p.val.size ≤ 64
  vl : s.vals.length ≤ 1000
  vv : ∀ x ∈ s.vals, x.size ≤ 1000000
theorem SOk.pop {s : St} (h : SOk s) (op : Int) : SOk (popS s op) := ⟨by show (s.stack.take _).length ≤ 16; rw [List.length_take]; have := h.sl; omega, fun v hv => h.sv v (List.mem_of_mem_take hv), h.rl, h.rv, h.tl, h.tv, h.vl, h.vv⟩
/-- What an operation needs is taken, or why not. -/
theorem taken (W0 : World) (R : Nat) (pV : Value) (key : ByteArray) (fuel : Int) (s : St) (w : World) (h : VmR W0 R pV key fuel s w) (hs : SOk s) (op : Int) (h0 : 0 ≤ op) (h1 : op ≤ 23) :
    Calls Tryd.prog 57 #[.pointer (some ⟨R, 0, none⟩), .int .i64 op] w fun e w' =>
      (∃ why : Int, (why = 1 ∨ why = 2) ∧ e = .returned (.tuple #[.slice none 0 0, .int .i64 why]) ∧ VmR W0 R pV key fuel s w' ∧ ∀ a sb, doesF key s op a sb = (why, s)) ∨
      (∃ A c vs, e = .returned (.tuple #[.slice A (kindL op).length c, .int .i64 0]) ∧ vs.length = (kindL op).length ∧ Kd.C kValM w' A (kindL op).length vs ∧ (∀ v ∈ vs, VOk v) ∧ VmR W0 R pV key fuel (popS s op) w' ∧ Ch w w' (fun k => k = R) ∧
        (0 < (kindL op).length → ∃ g arr, A = some ⟨g, 0, none⟩ ∧ w'.heap[g]? = some (.cells arr 23 (0, 0)) ∧ Free w' R g) ∧ ∀ a sb, doesF key s op a sb = opS key (popS s op) op.toNat a sb vs) := by
  by_cases hn : s.stack.length < (kindL op).length
  · refine (needs_short W0 R pV key fuel s w h op h0 h1 hn).mono ?_
    rintro e w' ⟨rfl, rfl⟩
    exact .inl ⟨1, .inl rfl, rfl, h, fun a sb => by unfold doesF; rw [if_pos hn]⟩
  · refine (needs W0 R pV key fuel s w h op h0 h1 (by omega) (by have := hs.sl; omega)).mono ?_
    rintro e w' (⟨hf, rfl, hv⟩ | ⟨hf, A, c, rfl, hC, hv, hch, hg⟩)
    · exact .inl ⟨2, .inr rfl, rfl, hv, fun a sb => by unfold doesF; rw [if_neg hn, if_pos hf]⟩
    · exact .inr ⟨A, c, topV s.stack op, rfl, by unfold topV; rw [List.length_drop]; omega, hC, fun v hv => hs.sv v (List.mem_of_mem_drop hv), hv, hch, hg, fun a sb => by unfold doesF; rw [if_neg hn, if_neg (by rw [hf]; decide)]⟩
theorem addz (g n : Nat) : (⟨g, 0, none⟩ : Addr).add n = ⟨g, n, none⟩ := by
  by_cases h : n = 0
  · subst h; rfl
  · simp [Addr.add, h]
theorem val_cells {w : World} {g n : Nat} {xs : List ValD} (h : Kd.C kValM w (some ⟨g, 0, none⟩) n xs) (i : Nat) (v : ValD) (hx : xs[i]? = some v) : w.cell? ⟨g, i * 3, none⟩ = some (.bool v.text) ∧ w.cell? ⟨g, i * 3 + 1, none⟩ = some (.int .i64 v.int) ∧ w.cell? ⟨g, i * 3 + 2, none⟩ = some (.string v.bytes) := by
  obtain ⟨hi, rfl⟩ := List.getElem?_eq_some_iff.1 hx
  obtain ⟨ad, e, a, b, c⟩ := at_val h i hi
  injection e with e
  subst e
  rw [addz] at a b c
  exact ⟨a, b, c⟩
theorem reg_at (l : List ValD) (j i : Nat) (h : j < l.length) (hi : i < 3) : (regL l)[j * 3 + i]? = (cellV (l.getD j (intV 0)))[i]? := by
  induction l generalizing j with
  | nil => simp at h
  | cons v vs ih =>
    unfold regL
    rw [List.map_cons, List.flatten_cons]
    cases j with
    | zero =>
      rw [Nat.zero_mul, Nat.zero_add, List.getElem?_append_left (by exact hi)]
      rfl
    | succ j =>
      rw [List.getElem?_append_right (by show 3 ≤ _; omega)]
      have := ih j (by simpa using h)
      show ((vs.map cellV).flatten)[(j + 1) * 3 + i - 3]? = _
      rw [show (j + 1) * 3 + i - 3 = j * 3 + i from by omega]
      exact this
theorem VmW.reg_cell {W0 w : World} {R : Nat} {pV : Value} {key : ByteArray} {fuel : Int} {s : St} {sV tV vV : Value} {m : Nat} (h : VmW W0 R pV key fuel s sV tV vV m w) (j : Nat) (hj : j < 8) :
    w.cell? ⟨R, 8 + j * 3, none⟩ = some (.bool (s.regs.getD j (intV 0)).text) ∧ w.cell? ⟨R, 8 + j * 3 + 1, none⟩ = some (.int .i64 (s.regs.getD j (intV 0)).int) ∧ w.cell? ⟨R, 8 + j * 3 + 2, none⟩ = some (.string (s.regs.getD j (intV 0)).bytes) := by
  have key2 : ∀ i, i < 3 → w.cell? ⟨R, 8 + j * 3 + i, none⟩ = (cellV (s.regs.getD j (intV 0)))[i]? := fun i hi => by
    rw [h.cell, ← reg_at s.regs j i (by rw [h.regs]; exact hj) hi, show 8 + j * 3 + i = (j * 3 + i) + 8 from by omega]
    show (regL s.regs ++ [tV, .map (some m)])[j * 3 + i]? = _
    rw [List.getElem?_append_left (by rw [regL_length h.regs]; omega)]
  exact ⟨key2 0 (by omega), key2 1 (by omega), key2 2 (by omega)⟩
theorem pushS_regs (s : St) (vs : List ValD) : (pushS s vs).regs = s.regs := by unfold pushS; split <;> rfl
theorem chDrew {w w' : World} {S : Nat → Prop} (h : Ch w w' S) : Ch w w'.drew S := h.trans (Ch.of_below (HeldM.drew w') (fun _ => False)) (fun _ _ h => h.elim)
theorem runL_reg (pV : Value) (key : ByteArray) (vV : Value) (fuel a b : Int) (c : Bool) (sV : Value) (l : List ValD) (tV : Value) (m j : Nat) (hl : l.length = 8) (hj : j < 8) (v : ValD) :
    (((runL pV key vV fuel a b c sV (regL l) tV m).set (8 + j * 3) (.bool v.text)).set (8 + j * 3 + 1) (.int .i64 v.int)).set (8 + j * 3 + 2) (.string v.bytes) = runL pV key vV fuel a b c sV (regL (l.set j v)) tV m := by
  match l, hl with
  | [v0, v1, v2, v3, v4, v5, v6, v7], _ =>
    have : j = 0 ∨ j = 1 ∨ j = 2 ∨ j = 3 ∨ j = 4 ∨ j = 5 ∨ j = 6 ∨ j = 7 := by omega
    rcases this with rfl | rfl | rfl | rfl | rfl | rfl | rfl | rfl <;> rfl
theorem VmW.setReg {W0 w : World} {R : Nat} {pV : Value} {key : ByteArray} {fuel : Int} {s : St} {sV tV vV : Value} {m : Nat} (h : VmW W0 R pV key fuel s sV tV vV m w) (j : Nat) (hj : j < 8) (v : ValD) :
    VmW W0 R pV key fuel { s with regs := s.regs.set j v } sV tV vV m (((w.setCell ⟨R, 8 + j * 3, none⟩ (.bool v.text)).setCell ⟨R, 8 + j * 3 + 1, none⟩ (.int .i64 v.int)).setCell ⟨R, 8 + j * 3 + 2, none⟩ (.string v.bytes)) := by
  refine h.upd ((((Ch.refl w (fun k => k = R)).setCell ⟨R, _, none⟩ _ rfl).setCell ⟨R, _, none⟩ _ rfl).setCell ⟨R, _, none⟩ _ rfl) ?_ h.vals (by rw [List.length_set]; exact h.regs) h.stk h.tld
  have := setCell_blk (setCell_blk (setCell_blk h.blk (j := 8 + j * 3) (.bool v.text)) (j := 8 + j * 3 + 1) (.int .i64 v.int)) (j := 8 + j * 3 + 2) (.string v.bytes)
  rw [runL_reg _ _ _ _ _ _ _ _ _ _ _ _ h.regs hj] at this
  exact this
theorem kindL_0 : (kindL 0).length = 0 ∧ (kindL 1).length = 0 ∧ (kindL 2).length = 0 ∧ (kindL 6).length = 0 ∧ (kindL 7).length = 0 ∧ (kindL 19).length = 0 ∧ (kindL 21).length = 0 := ⟨rfl, rfl, rfl, rfl, rfl, rfl, rfl⟩
theorem kindL_1 : (kindL 3).length = 1 ∧ (kindL 4).length = 1 ∧ (kindL 22).length = 1 ∧ (kindL 14).length = 1 ∧ (kindL 18).length = 1 ∧ (kindL 17).length = 1 ∧ (kindL 20).length = 1 := ⟨rfl, rfl, rfl, rfl, rfl, rfl, rfl⟩
theorem kindL_2 : (kindL 5).length = 2 ∧ (kindL 12).length = 2 ∧ (kindL 8).length = 2 ∧ (kindL 9).length = 2 ∧ (kindL 10).length = 2 ∧ (kindL 11).length = 2 ∧ (kindL 13).length = 2 ∧ (kindL 23).length = 2 ∧ (kindL 15).length = 2 ∧ (kindL 16).length = 3 := ⟨rfl, rfl, rfl, rfl, rfl, rfl, rfl, rfl, rfl, rfl⟩
end Go.Proofs.YthdinhgadefgaaaDoor.K
