/- What a call may have changed: blocks of a set alone, and what is new. -/
import Derived.Test.YtckjgfbfjjiikaaU
set_option linter.unusedVariables false
set_option linter.unusedSimpArgs false
namespace Go.Proofs.Ytckjgfbfjjiikaa.U
open Go.RowKit Go.Proofs.YtckjgfbfjjiikaaW.PrintWords Go.Proofs.YtckjgfbfjjiikaaW.PrintLast Go.Proofs.YtckjgfbfjjiikaaW.PrintMore
structure Ch (w w' : World) (S : Nat → Prop) : Prop where
  os : w'.os = w.os
  tape : w'.tape = w.tape
  output : w'.output = w.output
  size : w.heap.size ≤ w'.heap.size
  block : ∀ k, k < w.heap.size → ¬ S k → w'.heap[k]? = w.heap[k]?
section
variable {w w1 w2 w0 : World} {S T : Nat → Prop} {B : Nat}
theorem Ch.refl (w : World) (S : Nat → Prop) : Ch w w S := ⟨rfl, rfl, rfl, Nat.le_refl _, fun _ _ _ => rfl⟩
theorem Ch.trans (h : Ch w w1 S) (k : Ch w1 w2 T) (hT : ∀ k, k < w.heap.size → T k → S k) : Ch w w2 S :=
  ⟨k.os.trans h.os, k.tape.trans h.tape, k.output.trans h.output, Nat.le_trans h.size k.size, fun i hi hS => (k.block i (Nat.lt_of_lt_of_le hi h.size) (fun ht => hS (hT i hi ht))).trans (h.block i hi hS)⟩
theorem Ch.mono (h : Ch w w1 S) (hS : ∀ k, S k → T k) : Ch w w1 T := ⟨h.os, h.tape, h.output, h.size, fun k hk hT => h.block k hk (fun hs => hT (hS k hs))⟩
theorem Ch.of_below (h : Below w.heap.size w w1) (S : Nat → Prop) : Ch w w1 S := ⟨h.os, h.tape, h.output, h.size, fun k hk _ => h.block k hk⟩
theorem Ch.below (h : Ch w w1 S) (hB : B ≤ w.heap.size) (hS : ∀ k, S k → B ≤ k) : Below B w w1 := ⟨h.os, h.tape, h.output, h.size, fun k hk => h.block k (Nat.lt_of_lt_of_le hk hB) (fun hs => absurd (hS k hs) (by omega))⟩
theorem Ch.of_grown {row : Option Nat} (h : w.grownBy w1 row) (hS : ∀ k, row = some k → S k) : Ch w w1 S := ⟨h.os, h.tape, h.output, h.size, fun k hk hs => h.block k hk (fun e => hs (hS k e.symm))⟩
theorem Ch.setCell (h : Ch w w1 S) (a : Addr) (v : Value) (ha : S a.block) : Ch w (w1.setCell a v) S :=
  ⟨h.os, h.tape, h.output, by simpa [World.setCell] using h.size, fun k hk hs => (setCell_other (g := k) a v (fun e => hs (by rw [e]; exact ha))).trans (h.block k hk hs)⟩
theorem Ch.cell (h : Ch w w1 S) {a : Addr} {v : Value} (hc : w.cell? a = some v) (hs : ¬ S a.block) : w1.cell? a = some v :=
  (World.cell?_of_block (h.block a.block (World.block_lt_of_cell? w a hc) hs)).trans hc
theorem Ch.blk (h : Ch w w1 S) {g : Nat} {o : Obj} (hg : w.heap[g]? = some o) (hs : ¬ S g) : w1.heap[g]? = some o := (h.block g (blk_lt' hg) hs).trans hg
theorem Below.ch (hb : Below B w0 w) (h : Ch w w1 S) (hB : B ≤ w.heap.size) (hS : ∀ k, S k → B ≤ k) : Below B w0 w1 := hb.trans (h.below hB hS)
end
section
variable {α : Type} {d : Kd α} {e : TypeId} {w w' : World} {base : Nat} {v : Value} {xs ys : List α} {S : Nat → Prop}
theorem Own.ch (hf : Flat d) (h : Own d e w base v xs) (hc : Ch w w' S) (hS : ∀ k, v.ownBlock = some k → ¬ S k) : Own d e w' base v xs := by
  obtain ⟨_, inner, ⟨hl, ho⟩, hr⟩ := h
  refine ⟨fun _ _ => trivial, inner, ⟨hl, ?_⟩, hr.imp_ fun p c hp => hf.mk' (d.K_of_M hp) _ _ _⟩
  rcases ho with ho | ⟨g, cap, cells, rfl, hb, hg, r⟩
  · exact .inl ho
  · exact .inr ⟨g, cap, cells, rfl, hb, hc.blk hg (hS g rfl), r⟩
end

/-- append(own, read ...): where the row stands then is told too. -/
theorem wpList_app_own {P : Program} {ops : Array Oper} {rest : List Oper} {o : Oper} {a : Act} {Q : Exit → Act → World → Prop} {α : Type} {d : Kd α} (hf : Flat d) {W : World} (base : Nat) (hgd : o.guard = none) (s x : Operand) (t e : TypeId) (z : Value) (bytes : Nat)
    (ho : o.op = .call { callee := .builtin .append, args := #[s, x], argTypes := #[t, t] })
    (ht : P.underlying t = some (.slice e)) (hinfo : (P.info? e).map (fun i => (i.zero, i.size, i.bytes)) = some (some z, d.sz, bytes)) (hz : z.cells.size = d.sz) (hs0 : 0 < d.sz) (hb0 : 0 < bytes)
    (v : Value) (xs ys : List α) (A : Option Addr) (m c : Nat) (hs : a.eval s = v) (hx : a.eval x = .slice A m c) (HO : Own d e W base v xs) (hm : m = ys.length) (HR : d.C W A ys.length ys)
    (hbase : base ≤ W.heap.size) (hl : (xs.length + ys.length) * bytes ≤ 140737488355328)
    (h : ∀ v1 w1, Own d e w1 base v1 (xs ++ ys) → W.grownBy w1 v.ownBlock → (∀ k, v1.ownBlock = some k → v.ownBlock = some k ∨ W.heap.size ≤ k) → wpList P ops Q rest (a.put o.dst v1) w1) :
    wpList P ops Q (o :: rest) a W := by
  subst hm
  refine Kd.R_append_rows d (Rr := d.K W) (w0 := W) base hgd s x t e z bytes ho ht hinfo hz hs0 hb0 v xs ys A ys.length c (fun _ => True) (fun _ => False) hs hx HO HR (fun x cs hk => hf.mk' hk W base _) (fun _ h => h.elim) (fun _ _ => trivial) (Below.refl _ _) hbase hl (fun v1 w1 h1 _ hg hat => h v1 w1 h1 hg ?_)
  intro k hk
  rcases hat with hat | ⟨b, hb, hle⟩
  · exact .inl (hat ▸ hk)
  · rw [hb] at hk
    injection hk with hk
    exact .inr (hk ▸ hle)
end Go.Proofs.Ytckjgfbfjjiikaa.U
