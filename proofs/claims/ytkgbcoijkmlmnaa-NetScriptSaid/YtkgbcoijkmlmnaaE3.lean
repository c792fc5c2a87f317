/- A net: what it holds. -/
import Derived.Test.YtkgbcoijkmlmnaaE1
import Derived.Test.YtkgbcoijkmlmnaaTA2
set_option linter.unusedVariables false
set_option linter.unusedSimpArgs false
set_option maxRecDepth 100000
namespace Go.Proofs.Ytkgbcoijkmlmnaa.K
open Go.RowKit Go.Proofs.YtkgbcoijkmlmnaaW.PrintWords Go.Proofs.YtkgbcoijkmlmnaaW.PrintLast Go.Proofs.YtkgbcoijkmlmnaaW.PrintMore Go.Proofs.Ytkgbcoijkmlmnaa.U Go.Proofs.Ytkgbcoijkmlmnaa.T

structure NetP (w : World) (gN gT : Nat) (rv : Value) (ok F : Nat → Prop) (ls : List LetD) (lost : Int) : Prop where
  blk : w.heap[gN]? = some (.cells ([rv, .pointer (some ⟨gT, 0, none⟩)] : List Value).toArray 72 (0, 0))
  row : Kd.R kLet 36 w 0 ok rv ls
  tal : TallyR 105 w 0 gT [lost, 0, 0, 0, 0, 0, 0, 0]
  okF : ∀ k, ok k → F k ∧ k ≠ gN ∧ k ≠ gT
  fN : F gN
  fT : F gT
  ne : gN ≠ gT
  flt : ∀ k, F k → k < w.heap.size
  len : ls.length ≤ 128
/-- A net stands at block gN, in F's blocks. -/
def NetR (w : World) (gN : Nat) (F : Nat → Prop) (ls : List LetD) (lost : Int) : Prop := ∃ gT rv ok, NetP w gN gT rv ok F ls lost
section
variable {w w' : World} {gN gT : Nat} {rv : Value} {ok F S : Nat → Prop} {ls : List LetD} {lost : Int}
theorem NetP.ch (h : NetP w gN gT rv ok F ls lost) (hc : Ch w w' S) (hS : ∀ k, F k → ¬ S k) : NetP w' gN gT rv ok F ls lost where
  blk := hc.blk h.blk (hS _ h.fN)
  row := Kd.R_step h.row (fun k hk hlt => hc.block k hlt (hS k (h.okF k hk).1))
  tal := h.tal.ch hc (hS _ h.fT)
  okF := h.okF
  fN := h.fN
  fT := h.fT
  ne := h.ne
  flt k hk := Nat.lt_of_lt_of_le (h.flt k hk) hc.size
  len := h.len
theorem NetP.below (h : NetP w gN gT rv ok F ls lost) (hb : Below w.heap.size w w') : NetP w' gN gT rv ok F ls lost := h.ch (Ch.of_below hb (fun _ => False)) (fun _ _ h => h)
theorem NetR.ch (h : NetR w gN F ls lost) (hc : Ch w w' S) (hS : ∀ k, F k → ¬ S k) : NetR w' gN F ls lost := by
  obtain ⟨gT, rv, ok, h⟩ := h
  exact ⟨gT, rv, ok, h.ch hc hS⟩
theorem NetR.below (h : NetR w gN F ls lost) (hb : Below w.heap.size w w') : NetR w' gN F ls lost := h.ch (Ch.of_below hb (fun _ => False)) (fun _ _ h => h)
theorem NetR.flt (h : NetR w gN F ls lost) : ∀ k, F k → k < w.heap.size := by
  obtain ⟨gT, rv, ok, h⟩ := h
  exact h.flt
/-- Another row stands in the net. -/
theorem NetP.put (h : NetP w gN gT rv ok F ls lost) {rv' : Value} {ls' : List LetD} {ok' : Nat → Prop} {w1 : World} (hc : Ch w w1 (fun k => rv.ownBlock = some k)) (hr : Kd.R kLet 36 w1 0 ok' rv' ls') (hok : ∀ k, ok' k → ok k ∨ w.heap.size ≤ k) (hl : ls'.length ≤ 128) :
    ∃ F', NetP (w1.setCell ⟨gN, 0, none⟩ rv') gN gT rv' (fun k => ok' k ∧ k < w1.heap.size) F' ls' lost ∧ (∀ k, F' k → F k ∨ w.heap.size ≤ k) ∧ Ch w (w1.setCell ⟨gN, 0, none⟩ rv') F := by
  have hrv : ∀ k, rv.ownBlock = some k → F k ∧ k ≠ gN ∧ k ≠ gT := fun k hk => h.okF k (h.row.1 k hk)
  have hgN := h.flt gN h.fN
  have hgT := h.flt gT h.fT
  have hb1 : w1.heap[gN]? = some (.cells ([rv, .pointer (some ⟨gT, 0, none⟩)] : List Value).toArray 72 (0, 0)) := hc.blk h.blk (fun e => (hrv gN e).2.1 rfl)
  have hc2 : Ch w1 (w1.setCell ⟨gN, 0, none⟩ rv') (fun k => k = gN) := (Ch.refl w1 _).setCell ⟨gN, 0, none⟩ _ rfl
  refine ⟨fun k => k < w1.heap.size ∧ (F k ∨ w.heap.size ≤ k), ⟨setCell_blk hb1 rv', ?_, ?_, ?_, ⟨Nat.lt_of_lt_of_le hgN hc.size, .inl h.fN⟩, ⟨Nat.lt_of_lt_of_le hgT hc.size, .inl h.fT⟩, h.ne, fun k hk => Nat.lt_of_lt_of_le hk.1 hc2.size, hl⟩, fun k hk => hk.2, ?_⟩
  · refine Kd.R_mono (Kd.R_step (Kd.R_bound hr) (fun k hk hlt => hc2.block k hlt (fun e => ?_))) (fun k hk => ⟨hk.1, hk.2.2.1⟩)
    subst e
    rcases hok _ hk.1 with h1 | h1
    · exact (h.okF _ h1).2.1 rfl
    · omega
  · exact (h.tal.ch hc (fun e => (hrv gT e).2.2 rfl)).ch hc2 (fun e => h.ne e.symm)
  · rintro k ⟨hk, hlt⟩
    rcases hok k hk with h1 | h1
    · exact ⟨⟨hlt, .inl (h.okF k h1).1⟩, (h.okF k h1).2⟩
    · exact ⟨⟨hlt, .inr h1⟩, by omega, by omega⟩
  · exact (hc.mono (fun k hk => (hrv k hk).1)).trans hc2 (fun k _ e => by rw [e]; exact h.fN)
end
theorem kLet_sz : kLet.sz = 12 := rfl
theorem info_let : (Try.prog.info? 36).map (fun i => (i.zero, i.size, i.bytes)) = some (some (.agg #[.int .i64 0, .int .i64 0, .int .i64 0, .int .i64 0, .int .i64 0, .int .i64 0, .int .i64 0, .int .i64 0, .int .i64 0, .int .i64 0, .slice none 0 0, .slice none 0 0]), 12, 128) := by kernel_rfl
/-- A letter read in a row. -/
theorem at_let {w : World} {A : Option Addr} {n : Nat} {xs : List LetD} (h : Kd.C kLet w A n xs) (k : Nat) (hk : k < xs.length) : ∃ ad A1 A2 c1 c2, A = some ad ∧ MsgC w (xs[k]).m A1 A2 c1 c2 ∧ ∀ i u, (rawL xs[k] (.slice A1 (xs[k]).m.set.length c1) (.slice A2 (xs[k]).m.prs.length c2))[i]? = some u → w.cell? (ad.add (k * 12 + i)) = some u := by
  obtain ⟨h1, h2, h3⟩ := h
  obtain ⟨ad, e, hc⟩ := h3 (by omega)
  obtain ⟨cs, hl, hK, hcell⟩ := hc k xs[k] (List.getElem?_eq_getElem hk)
  obtain ⟨A1, A2, c1, c2, rfl, hm⟩ := kLet_open hK
  exact ⟨ad, A1, A2, c1, c2, e, hm, hcell⟩
def nilMsg : MsgD := ⟨0, 0, 0, 0, 0, 0, 0, 0, [], []⟩
def zeroLet : LetD := ⟨0, 0, nilMsg⟩
/-- What is sent of letters. -/
def sendL (ls xs : List LetD) : List LetD := ls ++ xs.take (128 - ls.length)
def lostN (ls xs : List LetD) : Int := (xs.length : Int) - (xs.take (128 - ls.length)).length
theorem sendL_len (ls xs : List LetD) (h : ls.length ≤ 128) : (sendL ls xs).length ≤ 128 := by unfold sendL; rw [List.length_append, List.length_take]; omega
theorem sendL_room (ls xs : List LetD) (x : LetD) (hl : ls.length ≤ 128) (h : (sendL ls xs).length < 128) : sendL ls (xs ++ [x]) = sendL ls xs ++ [x] ∧ lostN ls (xs ++ [x]) = lostN ls xs := by
  unfold sendL lostN at *
  rw [List.length_append, List.length_take] at h
  have h2 : xs.length < 128 - ls.length := by omega
  rw [List.take_of_length_le (l := xs ++ [x]) (by rw [List.length_append]; simp; omega), List.take_of_length_le (l := xs) (by omega)]
  exact ⟨by simp, by simp⟩
theorem sendL_full (ls xs : List LetD) (x : LetD) (hl : ls.length ≤ 128) (h : 128 ≤ (sendL ls xs).length) : sendL ls (xs ++ [x]) = sendL ls xs ∧ lostN ls (xs ++ [x]) = lostN ls xs + 1 := by
  unfold sendL lostN at *
  rw [List.length_append, List.length_take] at h
  have h2 : 128 - ls.length ≤ xs.length := by omega
  rw [List.take_append_of_le_length h2]
  exact ⟨rfl, by rw [List.length_append]; simp; omega⟩
end Go.Proofs.Ytkgbcoijkmlmnaa.K
