/- The machine: what a run holds. -/
import Derived.Test.YthdinhgadefgaaaDoorM1
import Derived.Test.YthdinhgadefgaaaDoorN5
set_option linter.unusedVariables false
set_option linter.unusedSimpArgs false
set_option maxRecDepth 100000
namespace Go.Proofs.YthdinhgadefgaaaDoor.K
open Go.RowKit Go.Proofs.YthdinhgadefgaaaDoorW.PrintWords Go.Proofs.YthdinhgadefgaaaDoorW.PrintLast Go.Proofs.YthdinhgadefgaaaDoorW.PrintMore Go.Proofs.YthdinhgadefgaaaDoor.U Go.Proofs.YthdinhgadefgaaaDoor.T Go.Proofs.YthdinhgadefgaaaDoor.V

theorem flat_pairM : Flat kPair := Flat.iso (Flat.pair flat_string flat_string) _
structure St where
  vals : List ByteArray
  at_ : Int
  steps : Int
  halted : Bool
  stack : List ValD
  regs : List ValD
  told : List PairD
def regL (l : List ValD) : List Value := (l.map cellV).flatten
def runL (pV : Value) (key : ByteArray) (vV : Value) (fuel : Int) (a b : Int) (c : Bool) (sV : Value) (rs : List Value) (tV : Value) (m : Nat) : List Value :=
  pV :: .string key :: vV :: .int .i64 fuel :: .int .i64 a :: .int .i64 b :: .bool c :: sV :: (rs ++ [tV, .map (some m)])
structure VmW (W0 : World) (R : Nat) (pV : Value) (key : ByteArray) (fuel : Int) (s : St) (sV tV vV : Value) (m : Nat) (w : World) : Prop where
  blk : w.heap[R]? = some (.cells (runL pV key vV fuel s.at_ s.steps s.halted sV (regL s.regs) tV m).toArray 76 (0, 0))
  low : W0.heap.size ≤ R
  bel : Below W0.heap.size W0 w
  vals : ∃ A c, vV = .slice A s.vals.length c ∧ s.vals.length ≤ c ∧ Kd.C Kd.string W0 A s.vals.length s.vals
  regs : s.regs.length = 8
  stk : Own kValM 23 w W0.heap.size sV s.stack
  tld : Own kPair 49 w W0.heap.size tV s.told
  dig : DigR W0.heap.size m w
/-- A run's object stands at block R. -/
def VmR (W0 : World) (R : Nat) (pV : Value) (key : ByteArray) (fuel : Int) (s : St) (w : World) : Prop := ∃ sV tV vV m, VmW W0 R pV key fuel s sV tV vV m w
/-- Neither the run's own block nor its stack's. -/
def Free (w : World) (R g : Nat) : Prop := g ≠ R ∧ ∀ v, w.cell? ⟨R, 7, none⟩ = some v → v.ownBlock ≠ some g
theorem Free.below {w w' : World} {R g : Nat} {v : Value} (h : Free w R g) (hc : w.cell? ⟨R, 7, none⟩ = some v) (hb : Below w.heap.size w w') : Free w' R g :=
  ⟨h.1, fun v' hv' => by
    have := (hb.cell (World.block_lt_of_cell? w _ hc)).trans hc
    rw [hv'] at this
    injection this with this
    subst this
    exact h.2 _ hc⟩
theorem own_addr {α : Type} {d : Kd α} {e : TypeId} {w : World} {base : Nat} {A : Option Addr} {n c : Nat} {xs : List α} (h : Own d e w base (.slice A n c) xs) (hn : 0 < n) : ∃ g, A = some ⟨g, 0, none⟩ ∧ base ≤ g ∧ ∃ arr, w.heap[g]? = some (.cells arr e (0, 0)) := by
  obtain ⟨_, inner, ⟨hl, ho⟩, hr⟩ := h
  rcases ho with ⟨e1, e2⟩ | ⟨g, cap, cur, e1, h1, h2, _⟩
  · injection e1 with _ e3 _; omega
  · injection e1 with e1 _ _
    exact ⟨g, e1, h1, _, h2⟩
theorem own_blkM {α : Type} {d : Kd α} {e : TypeId} {w : World} {base : Nat} {v : Value} {xs : List α} (h : Own d e w base v xs) {k : Nat} (hk : v.ownBlock = some k) : ∃ cs, w.heap[k]? = some (.cells cs e (0, 0)) := by
  obtain ⟨_, inner, ⟨hl, ho⟩, hr⟩ := h
  rcases ho with ⟨rfl, _⟩ | ⟨g, cap, cur, rfl, h1, h2, _⟩
  · cases hk
  · injection hk with hk
    subst hk
    exact ⟨_, h2⟩
section
variable {W0 w w' : World} {R : Nat} {pV : Value} {key : ByteArray} {fuel : Int} {s s' : St} {sV tV vV sV' tV' vV' : Value} {m : Nat}
theorem VmW.ch {S : Nat → Prop} (h : VmW W0 R pV key fuel s sV tV vV m w) (hc : Ch w w' S) (hB : ∀ k, S k → W0.heap.size ≤ k) (hR : ¬ S R) (hs : ∀ k, sV.ownBlock = some k → ¬ S k) (ht : ∀ k, tV.ownBlock = some k → ¬ S k) (hd : ∀ k, S k → ¬ DigS w k) : VmW W0 R pV key fuel s sV tV vV m w' where
  blk := hc.blk h.blk hR
  low := h.low
  bel := Below.ch h.bel hc h.bel.size hB
  vals := h.vals
  regs := h.regs
  stk := h.stk.ch flat_valM hc hs
  tld := h.tld.ch flat_pairM hc ht
  dig := h.dig.ch hc hd
theorem VmW.below (h : VmW W0 R pV key fuel s sV tV vV m w) (hb : Below w.heap.size w w') : VmW W0 R pV key fuel s sV tV vV m w' :=
  h.ch (Ch.of_below hb (fun _ => False)) (fun _ h => h.elim) id (fun _ _ h => h) (fun _ _ h => h) (fun _ h => h.elim)
theorem VmR.below (h : VmR W0 R pV key fuel s w) (hb : Below w.heap.size w w') : VmR W0 R pV key fuel s w' := by
  obtain ⟨sV, tV, vV, m, h⟩ := h
  exact ⟨_, _, _, _, h.below hb⟩
/-- The run's own block is written. -/
theorem VmW.upd (h : VmW W0 R pV key fuel s sV tV vV m w) (hc : Ch w w' (fun k => k = R)) (hb : w'.heap[R]? = some (.cells (runL pV key vV' fuel s'.at_ s'.steps s'.halted sV' (regL s'.regs) tV' m).toArray 76 (0, 0)))
    (hv : ∃ A c, vV' = .slice A s'.vals.length c ∧ s'.vals.length ≤ c ∧ Kd.C Kd.string W0 A s'.vals.length s'.vals) (hr : s'.regs.length = 8) (hs : Own kValM 23 w W0.heap.size sV' s'.stack) (ht : Own kPair 49 w W0.heap.size tV' s'.told) : VmW W0 R pV key fuel s' sV' tV' vV' m w' where
  blk := hb
  low := h.low
  bel := Below.ch h.bel hc h.bel.size (fun k hk => by rw [hk]; exact h.low)
  vals := hv
  regs := hr
  stk := hs.ch flat_valM hc (fun k hk e => by
    obtain ⟨cs, h2⟩ := own_blkM hs hk
    exact blk_neM h2 h.blk (by decide) e)
  tld := ht.ch flat_pairM hc (fun k hk e => by
    obtain ⟨cs, h2⟩ := own_blkM ht hk
    exact blk_neM h2 h.blk (by decide) e)
  dig := h.dig.ch hc (fun k hk hd => by
    subst hk
    rcases hd with ⟨es, c, hd⟩ | ⟨cs, fr, hd⟩
    · rw [h.blk] at hd; cases hd
    · exact blk_neM h.blk hd (by decide) rfl)
theorem VmW.cell (h : VmW W0 R pV key fuel s sV tV vV m w) (j : Nat) : w.cell? ⟨R, j, none⟩ = (runL pV key vV fuel s.at_ s.steps s.halted sV (regL s.regs) tV m)[j]? := cell_of_blk h.blk
theorem VmW.frozen (h : VmW W0 R pV key fuel s sV tV vV m w) (j : Nat) : w.frozen? ⟨R, j, none⟩ = false := frozen_of_blk h.blk
theorem regL_length {l : List ValD} (h : l.length = 8) : (regL l).length = 24 := by
  match l, h with
  | [a, b, c, d, e, f, g, i], _ => rfl
theorem VmW.told_cell (h : VmW W0 R pV key fuel s sV tV vV m w) : w.cell? ⟨R, 32, none⟩ = some tV := by
  rw [h.cell]
  show (regL s.regs ++ [tV, .map (some m)])[24]? = some tV
  rw [List.getElem?_append_right (by rw [regL_length h.regs]; omega), regL_length h.regs]
  rfl
theorem VmW.map_cell (h : VmW W0 R pV key fuel s sV tV vV m w) : (runL pV key vV fuel s.at_ s.steps s.halted sV (regL s.regs) tV m)[33]? = some (.map (some m)) := by
  show (regL s.regs ++ [tV, .map (some m)])[25]? = some _
  rw [List.getElem?_append_right (by rw [regL_length h.regs]; omega), regL_length h.regs]
  rfl
end
end Go.Proofs.YthdinhgadefgaaaDoor.K
